/- apparatusSpec_holds, part E of the proof: what its theorems say holds without further conditions. -/
import Derived.Test.YtodakphagkommaaGreatDoorASD
namespace Go.Proofs.YtodakphagkommaaGreatDoor
section
open Go Go.Kn Go.Proofs
structure Em where
 locus:Int
 code:Int
 reason:Int
def Yo (e:Em):List Value:=[.int .i64 e.locus,.int .i64 e.code,.int .i64 e.reason]
theorem zag (e:Em):(Yo e).length=3:=rfl
theorem zvi (xs:List Em):YD (xs.flatMap Yo)=true:=Yv (fun _=>rfl) xs
def r1F (code:Int)(b:Bool):Bool:=(b&&code != 0)&&code != 8589934592
def r2F (code:Int)(b:Bool):Bool:=(Jo code==0)&& !b
def r3F (code:Int)(_:Bool):Bool:=code==0
def rsF (r code:Int)(b:Bool):Bool:=if r=1 then r1F code b else if r=2 then r2F code b else if r=3 then r3F code b else false
def zbf (rows:List (List Int))(e:Em):Bool:=rows.any fun r=>r.getD e.locus.toNat 0==e.code
def zbA (rows:List (List Int))(m:Nat)(l:Int)(e:Em):Bool:=decide (e.locus≤l)||(decide (e.locus≥(m:Int))|| !rsF e.reason e.code (zbf rows e))
def JZ (rows:List (List Int))(m:Nat):Int→List Em→Bool
 | _,[]=>true
 | l,e::es=> !zbA rows m l e&&JZ rows m e.locus es
theorem Y4 {rows:List (List Int)}{m k:Nat}{l:Int}{es:List Em}{e:Em}(h:es[k]? =some e)(hb:zbA rows m l e=true):JZ rows m l (es.drop k)=false:=by rw [Z5 h];unfold JZ;rw [hb];rfl
theorem zaY {rows:List (List Int)}{m k:Nat}{l:Int}{es:List Em}{e:Em}(h:es[k]? =some e)(hb:zbA rows m l e=false):JZ rows m l (es.drop k)=JZ rows m e.locus (es.drop (k+1)):=by
 rw [Z5 h]
 show (!zbA rows m l e&&JZ rows m e.locus (es.drop (k+1)))=_
 rw [hb];rfl
theorem zdU {rows:List (List Int)}{m k:Nat}{l:Int}{es:List Em}(h:es.length≤k):JZ rows m l (es.drop k)=true:=by rw [List.drop_eq_nil_of_le h];rfl
theorem zvJ {rows:List (List Int)}{m:Nat}{l:Int}{e:Em}(h1:e.reason≠1)(h2:e.reason≠2)(h3:e.reason≠3):zbA rows m l e=true:=by unfold zbA rsF;rw [if_neg h1,if_neg h2,if_neg h3];simp
theorem zwU {rows:List (List Int)}{m:Nat}{l:Int}{e:Em}(h:decide (e.locus≤l)=true):zbA rows m l e=true:=by unfold zbA;rw [h];rfl
theorem zuE {rows:List (List Int)}{m:Nat}{l:Int}{e:Em}(h:decide (e.locus≥(m:Int))=true):zbA rows m l e=true:=by unfold zbA;rw [h];simp
theorem zom {rows:List (List Int)}{m:Nat}{l:Int}{e:Em}{t:Bool}(h1:decide (e.locus≤l)=false)(h2:decide (e.locus≥(m:Int))=false)(h3:(!rsF e.reason e.code (zbf rows e))=t):zbA rows m l e=t:=by unfold zbA;rw [h1,h2,h3];rfl
theorem zmJ (_rows:List (List Int))(m:Nat)(l:Int)(e:Em):decide (e.locus≤l)=true∨(decide (e.locus≤l)=false∧decide (e.locus≥(m:Int))=true)∨(decide (e.locus≤l)=false∧decide (e.locus≥(m:Int))=false):=by
 cases decide (e.locus≤l)<;>cases decide (e.locus≥(m:Int))<;>simp
/-! ### The readings -/
def lfK (es:List Em):Nat→List Em
 | 0=>es
 | k+1=>match lfK es k with
  | []=>[]
  | e::r=>if e.locus=(k:Int) then r else e::r
def JN (rows:List (List Int))(cl:List Int)(k:Nat):Int:=if (Y3 rows cl k).any (fun y=>(rows.getD 0 []).getD k 0==y)=true then (rows.getD 0 []).getD k 0 else (Y3 rows cl k).getD 0 0
def UP (rows:List (List Int))(cl:List Int)(es:List Em)(k:Nat):Int:=match lfK es k with
 | []=>JN rows cl k
 | e::_=>if e.locus=(k:Int) then e.code else JN rows cl k
def Vr (rows:List (List Int))(cl:List Int)(es:List Em):List Int:=(List.range (rows.getD 0 []).length).map (UP rows cl es)
theorem zo3 {es:List Em}{k:Nat}(h:lfK es k=[]):lfK es (k+1)=[]:=by show (match lfK es k with | []=>[] | e::r=>if e.locus=(k:Int) then r else e::r)=_;rw [h]
theorem zoW {es:List Em}{k:Nat}{e:Em}{r:List Em}(h:lfK es k=e::r)(he:e.locus=(k:Int)):lfK es (k+1)=r:=by show (match lfK es k with | []=>[] | e::r=>if e.locus=(k:Int) then r else e::r)=_;rw [h];exact if_pos he
theorem zv7 {es:List Em}{k:Nat}{e:Em}{r:List Em}(h:lfK es k=e::r)(he:¬e.locus=(k:Int)):lfK es (k+1)=e::r:=by show (match lfK es k with | []=>[] | e::r=>if e.locus=(k:Int) then r else e::r)=_;rw [h];exact if_neg he
theorem zpS {rows:List (List Int)}{cl:List Int}{es:List Em}{k:Nat}(h:lfK es k=[]):UP rows cl es k=JN rows cl k:=by unfold UP;rw [h]
theorem zo9 {rows:List (List Int)}{cl:List Int}{es:List Em}{k:Nat}{e:Em}{r:List Em}(h:lfK es k=e::r)(he:e.locus=(k:Int)):UP rows cl es k=e.code:=by unfold UP;rw [h];exact if_pos he
theorem zwA {rows:List (List Int)}{cl:List Int}{es:List Em}{k:Nat}{e:Em}{r:List Em}(h:lfK es k=e::r)(he:¬e.locus=(k:Int)):UP rows cl es k=JN rows cl k:=by unfold UP;rw [h];exact if_neg he
def Uu (rows:List (List Int))(no:Int)(cl:List Int)(es:List Em):Int:=
 if Yk rows cl≠0 then Yk rows cl else if (decide (no<0)||decide (no>1048576))=true then 430 else if JZ rows (rows.getD 0 []).length (-1) es=true then 0 else 430
theorem zc8 {rows:List (List Int)}{no:Int}{cl:List Int}{es:List Em}(h:Yk rows cl≠0):Uu rows no cl es=Yk rows cl:=by unfold Uu;rw [if_pos h]
theorem zln {rows:List (List Int)}{no:Int}{cl:List Int}{es:List Em}(h:Yk rows cl=0)(h2:(decide (no<0)||decide (no>1048576))=true):Uu rows no cl es=430:=by unfold Uu;rw [if_neg (by omega),if_pos h2]
theorem Wm {rows:List (List Int)}{no:Int}{cl:List Int}{es:List Em}(h:Yk rows cl=0)(h2:(decide (no<0)||decide (no>1048576))=false)(h3:JZ rows (rows.getD 0 []).length (-1) es=false):Uu rows no cl es=430:=by unfold Uu;rw [if_neg (by omega),if_neg (by rw [h2];decide),if_neg (by rw [h3];decide)]
theorem zfD {rows:List (List Int)}{no:Int}{cl:List Int}{es:List Em}(h:Yk rows cl=0)(h2:(decide (no<0)||decide (no>1048576))=false)(h3:JZ rows (rows.getD 0 []).length (-1) es=true):Uu rows no cl es=0:=by unfold Uu;rw [if_neg (by omega),if_neg (by rw [h2];decide),if_pos h3]
def ZT (no:Int)(a1:Option Addr)(n1 c1:Nat)(a2:Option Addr)(n2 c2:Nat)(a3:Option Addr)(n3 c3:Nat):List Value:=[.int .i64 no,.slice a1 n1 c1,.slice a2 n2 c2,.slice a3 n3 c3]
def zzE (I:Qw)(vs:List Value)(no:Int)(cl:List Int)(es:List Em)(rd:List Int):Prop:=∃ a1 n1 c1 a2 n2 c2 a3 n3 c3,vs=ZT no a1 n1 c1 a2 n2 c2 a3 n3 c3∧Sl I 1 QP a1 n1 c1 cl∧Sl I 3 Yo a2 n2 c2 es∧Sl I 1 QP a3 n3 c3 rd
def zx3 (rows:List (List Int))(no:Int)(cl:List Int)(es:List Em):Value→Qw→Go.Kn.Loc→Prop:=fun v I' L=>L=[]∧∃ vs,v= .tuple #[.agg vs.toArray,.int .i64 (Uu rows no cl es)]∧
 ((Uu rows no cl es=0∧zzE I' vs no cl es (Vr rows cl es))∨(Uu rows no cl es≠0∧zzE I' vs 0 [] [] []))
theorem zfl {rows:List (List Int)}{cl:List Int}{k:Nat}(h:Yk rows cl=0)(hk:k<(rows.getD 0 []).length):(U8 rows cl)[k]? =some (Y3 rows cl k):=by rw [Uh h,List.getElem?_map,List.getElem?_range hk];rfl
theorem zdB {rows:List (List Int)}{cl:List Int}(h:Yk rows cl=0):(U8 rows cl).length=(rows.getD 0 []).length:=by rw [Uh h,List.length_map,List.length_range]
end
section
open Go Go.Kn Go.Proofs
theorem zoo:ElT Tryz.prog 24 67 3 24:=.of (by kernel_rfl)
theorem Ys:Q3 Tryz.prog 67 0 0:=.of (by kernel_rfl)
theorem Jl:Q3 Tryz.prog 67 1 1:=.of (by kernel_rfl)
theorem zrt:Fun Tryz.prog 106:=.of Tryz.func106 (by kernel_rfl) (by kernel_rfl)
theorem zv0:Fun Tryz.prog 54:=.of Tryz.func54 (by kernel_rfl) (by kernel_rfl)
theorem zpy:Fun Tryz.prog 63:=.of Tryz.func63 (by kernel_rfl) (by kernel_rfl)
theorem zaH:MpT Tryz.prog 120 3 124 (.agg #[.nilFunc]):=⟨by kernel_rfl,.of (by kernel_rfl)⟩
theorem zd4:PlT Tryz.prog 124 #[(0,1)] (.agg #[.nilFunc]):=⟨.of (by kernel_rfl),by kernel_rfl,fun w=>by kernel_rfl⟩
theorem zzr (I:Qw)(code:Int)(b:Bool):Zu Tryz.prog 97 [.int .i64 code,.bool b] I (.bool (r1F code b)):=by
 intro g H w hw
 refine qe Tryz.func97 Tryz.ntmps97 hw ?_
 refine zR (zA ?_)
 refine zN (zR ?_)
 refine zM ?_
 refine zM ?_
 refine QG 1 rfl rfl rfl ?_
 refine zK (Qh rfl) ?_
 refine zK (QI rfl rfl rfl) ?_
 refine QL rfl rfl rfl rfl rfl ?_
 refine zM ?_
 refine QG 5 rfl rfl rfl ?_
 refine zK (Qh rfl) ?_
 refine zK (QI rfl rfl rfl) ?_
 refine QL rfl rfl rfl rfl rfl ?_
 refine zA (zN (Qs ?_))
 exact zr rfl rfl (by rfl)
theorem zy9 (I:Qw)(code:Int)(b:Bool):Zu Tryz.prog 98 [.int .i64 code,.bool b] I (.bool (r2F code b)):=by
 intro g H w hw
 refine qe Tryz.func98 Tryz.ntmps98 hw ?_
 have hIc:=zAl I
 refine zR (zA ?_)
 refine zN (zR ?_)
 refine zM ?_
 refine qc (vs:=[_]) rfl zld (zlb _ _) ?_
 refine zM ?_
 refine zE ?_
 refine zE ?_
 refine Qv Wg rfl rfl (fun b_5=>?_)
 refine zh Y5 ?_
 refine zA ?_
 refine zN (zR ?_)
 refine zM ?_
 refine zC ?_
 refine zM ?_
 refine QG 2 rfl rfl rfl ?_
 refine zK (Qh rfl) ?_
 refine zK (Yw rfl) ?_
 refine QL rfl rfl rfl rfl rfl ?_
 refine zA (zN (Qs ?_))
 exact zp hIc rfl rfl (by rfl)
theorem zy4 (I:Qw)(code:Int)(b:Bool):Zu Tryz.prog 99 [.int .i64 code,.bool b] I (.bool (r3F code b)):=by
 intro g H w hw
 refine qe Tryz.func99 Tryz.ntmps99 hw ?_
 refine zR (zA ?_)
 refine zN (zR ?_)
 refine zM ?_
 refine zC ?_
 refine zA (zN (Qs ?_))
 exact zr rfl rfl (by rfl)
def rsV (f:Nat):Value:=.agg #[.func (.func f) #[] #[]]
def rsM:List (Int×Nat):=[(1,97),(2,98),(3,99)]
theorem zlc (I:Qw):Z4 Tryz.prog 52 [] I [] (fun v I' L=>L=[]∧∃ r,v= .map (some r)∧I' r=some (Z0 (Value.int .i64) rsV rsM)):=by
 intro g H w hw
 refine qe Tryz.func52 Tryz.ntmps52 hw ?_
 have hIc:=zAl I
 refine zR (zA ?_)
 refine zN (zR ?_)
 refine ZU rfl rfl (fun r_1=>?_)
 refine zV (QQ (ps:=[(0,_)]) [_] zd4 rfl rfl) ?_
 refine UT (m:=[]) (ek:=Value.int .i64) (ev:=rsV) 97 zaH ZQ rfl rfl rfl rfl (by repeat (first | exact Upd.here | apply Upd.there | apply QM)) ?_
 refine zV (QQ (ps:=[(0,_)]) [_] zd4 rfl rfl) ?_
 refine UT (m:=[(1,97)]) (ek:=Value.int .i64) (ev:=rsV) 98 zaH ZQ rfl rfl rfl rfl (by repeat (first | exact Upd.here | apply Upd.there | apply QM)) ?_
 refine zV (QQ (ps:=[(0,_)]) [_] zd4 rfl rfl) ?_
 refine UT (m:=[(1,97),(2,98)]) (ek:=Value.int .i64) (ev:=rsV) 99 zaH ZQ rfl rfl rfl rfl (by repeat (first | exact Upd.here | apply Upd.there | apply QM)) ?_
 refine zM ?_
 refine zA (zN (Qs ?_))
 refine QR .here (fun I9 h9 e9=>?_)
 exact Zq rfl rfl (fun w hw=>⟨_,I9,[],rfl,hIc.trans h9,hw,rfl,r_1,rfl,e9⟩)
theorem zyd {I:Qw}{av:Option Addr}{n c:Nat}{v:List Int}(hQ:Sl I 1 QP av n c v){b:Nat}{e:Em}(hb:I b=some (.cells (Yo e).toArray 67 (0,0)))(h0:0≤e.locus)(hl:e.locus.toNat<n):Zu Tryz.prog 54 [.slice av n c,Ze b] I (.bool (v.getD e.locus.toNat 0==e.code)):=by
 intro g H w hw
 refine qe Tryz.func54 Tryz.ntmps54 hw ?_
 refine zR (zA (zN (Qk ?_)))
 refine Yq mixed (by kernel_rfl) ?_
 refine zq (Qh rfl) ?_
 refine zq (Qi rfl Ys) ?_
 refine zq (Qd rfl Qr (fun hg=>by exact .imm hb rfl)) ?_
 refine zq (zX Qt hQ) ?_
 refine zq (Qd rfl Qr (fun hg=>by exact zAe (k:=e.locus.toNat) hQ (QX (d:=0) hQ.len hl) rfl)) ?_
 refine zq (Qi rfl Jl) ?_
 refine zq (Qd rfl Qr (fun hg=>by exact .imm hb rfl)) ?_
 refine zq (QI rfl rfl rfl) ?_
 refine zq (ZM rfl) ?_
 refine Yp ?_
 refine Qa (Qs ?_)
 exact zr rfl rfl (by rfl)
theorem zl7 {I:Qw}{bv:Option Addr}{n2 c2:Nat}{rows:List (List Int)}(hV:SlN I bv n2 c2 rows)(hn:n2≤100000){b:Nat}{e:Em}(hb:I b=some (.cells (Yo e).toArray 67 (0,0)))(h0:0≤e.locus)(hl:∀ r∈rows,e.locus.toNat<r.length):Zu Tryz.prog 100 [.slice bv n2 c2,.func (.func 54) #[] [Ze b].toArray] I (.int .i64 (Ur (fun r:List Int=>r.getD e.locus.toNat 0==e.code) rows)):=by
 intro g H w hw
 refine qe Tryz.func100 Tryz.ntmps100 hw ?_
 have hlV:=hV.len
 obtain ⟨hs,hV⟩:=hV
 have hH:=hV.1
 refine zR (zA (zN (Qk (zR ?_))))
 refine zM ?_
 refine zQ Q0 ?_
 refine zM (zN (Ql ?_))
 refine zU [(0,_),(1,_),(7,_)] (fun T L0 mz E I' loc'=>∃ (k:Nat),mz=n2-k∧E=(8,.int .i64 k)::T∧I=I'∧L0=loc'∧k≤n2∧(rows.take k).any (fun r:List Int=>r.getD e.locus.toNat 0==e.code)=false) ?_ (h:=⟨0,rfl,rfl,rfl,rfl,Nat.zero_le _,rfl⟩)
 rintro mz E I' loc' ⟨k,rfl,rfl,rfl,rfl,hk,hno⟩
 refine zR (zC (zN (Qk ?_)))
 refine zI ?_ ?_<;>intro hc9
 ·
  have hlt_k:k<n2:=by have h:=hc9;simp at h;omega
  obtain ⟨x,v,hx,hv,hQ⟩:=hV.at hlt_k
  refine Qo (Qa (Qk (Ql (zR (zM ?_)))))
  refine zA ?_
  refine zN (zR ?_)
  refine zM ?_
  refine zM ?_
  refine zM ?_
  refine zV (zX Q0 hH) ?_
  refine zV (Qd rfl QJ (fun hg=>by exact zAe hH hx rfl)) ?_
  refine Y0 (cap:=[Ze b]) (vs:=[_]) rfl rfl zv0 (zyd hQ hb h0 (by rw [←hQ.len];exact hl _ (List.mem_of_getElem? hv))) rfl rfl ?_
  refine zN ?_
  refine zI ?_ ?_<;>intro hc16
  ·
   refine zR (zM ?_)
   refine zA (zN (Qs (Qm (Qb (Qb (Qm (Qb ?_)))))))
   exact zr rfl rfl (by rw [JJ hno hv hc16])
  refine Qo (Qg (Qa (Qf (zB ?_))))
  refine zM (Qc ?_)
  exact zm (h:=⟨n2-(k+1),by omega,k+1,rfl,rfl,rfl,rfl,by omega,Ym hv hno hc16⟩)
 have hge_k:n2≤k:=by have h:=hc9;simp at h;omega
 refine QH (Qe (Qe (Qj (Qa (zR (zA (zN ?_)))))))
 refine Qs ?_
 exact zr rfl rfl (by rw [VT hlV hge_k hno])
theorem zeo {I:Qw}{bv:Option Addr}{n2 c2:Nat}{rows:List (List Int)}(hV:SlN I bv n2 c2 rows)(hn:n2≤100000){b:Nat}{e:Em}(hb:I b=some (.cells (Yo e).toArray 67 (0,0)))(h0:0≤e.locus)(hl:∀ r∈rows,e.locus.toNat<r.length):Zu Tryz.prog 53 [.slice bv n2 c2,.func (.func 54) #[] [Ze b].toArray] I (.bool (zbf rows e)):=by
 intro g H w hw
 refine qe Tryz.func53 Tryz.ntmps53 hw ?_
 refine zR (zA ?_)
 refine zN (zR ?_)
 refine zM ?_
 refine zM ?_
 refine qc (vs:=[_,_]) rfl zbK (zl7 hV hn hb h0 hl) ?_
 refine zC ?_
 refine zA (zN (Qs ?_))
 exact zr rfl rfl (by unfold zbf;rw [←KH])
theorem zcs {I:Qw}{av:Option Addr}{n c:Nat}{xs:List Int}(hS:Sl I 1 QP av n c xs)(hn:n≤400000):Z4 Tryz.prog 55 [.slice av n c] I [] (fun v I' L=>I'=I∧OwnS 3 1 v n (xs.flatMap QP) L):=by
 intro g H w hw
 refine qe Tryz.func55 Tryz.ntmps55 hw ?_
 refine zR (zA (zN (Qk (zR ?_))))
 refine zM ?_
 refine zV (XU rfl rfl Qt) ?_
 refine zN ?_
 refine zI ?_ ?_<;>intro hc4
 ·
  have hn0:n=0:=Decidable.byContradiction fun h=>by have:=hS.base h;rw [this] at hc4;cases hc4
  have hl:=hS.len
  subst hn0
  have hx0:=List.eq_nil_of_length_eq_zero hl
  subst hx0
  refine zR (zA (zN (Qs (Qb ?_))))
  exact Zq rfl rfl (fun w hw=>⟨_,I,_,rfl,zAl _,hw,rfl,OwnS.nil⟩)
 refine Qo (Qa (zR ?_))
 refine Qp (ps:=[]) (m:=[]) Za rfl (.nil) rfl (by simp) (by decide) (by decide) rfl rfl (fun b_5=>?_)
 refine zM ?_
 refine QU (v:=_) (ys:=xs.flatMap QP) (L:=[(b_5,_)]) rfl rfl Za OwnS.new (by repeat (first | exact .cons .here .nil | exact QD | exact Qy | apply QC | apply QB)) (hS.src Qu) (V0 _) (by omega) rfl rfl ?_
 intro v1 L1 hO1 _;rw [List.nil_append,Nat.zero_add] at hO1
 refine zA (zN (Qs ?_))
 exact Zq rfl rfl (fun w hw=>⟨_,I,_,rfl,zAl _,hw.subL Zg,rfl,hO1⟩)
theorem zmj {I:Qw}{av:Option Addr}{n c:Nat}{xs:List Em}(hS:Sl I 3 Yo av n c xs)(hn:n≤400000):Z4 Tryz.prog 56 [.slice av n c] I [] (fun v I' L=>I'=I∧OwnS 67 3 v n (xs.flatMap Yo) L):=by
 intro g H w hw
 refine qe Tryz.func56 Tryz.ntmps56 hw ?_
 refine zR (zA (zN (Qk (zR ?_))))
 refine zM ?_
 refine zV (XU rfl rfl Vu) ?_
 refine zN ?_
 refine zI ?_ ?_<;>intro hc4
 ·
  have hn0:n=0:=Decidable.byContradiction fun h=>by have:=hS.base h;rw [this] at hc4;cases hc4
  have hl:=hS.len
  subst hn0
  have hx0:=List.eq_nil_of_length_eq_zero hl
  subst hx0
  refine zR (zA (zN (Qs (Qb ?_))))
  exact Zq rfl rfl (fun w hw=>⟨_,I,_,rfl,zAl _,hw,rfl,OwnS.nil⟩)
 refine Qo (Qa (zR ?_))
 refine Qp (ps:=[]) (m:=[]) zoo rfl (.nil) rfl (by simp) (by decide) (by decide) rfl rfl (fun b_5=>?_)
 refine zM ?_
 refine QU (v:=_) (ys:=xs.flatMap Yo) (L:=[(b_5,_)]) rfl rfl zoo OwnS.new (by repeat (first | exact .cons .here .nil | exact QD | exact Qy | apply QC | apply QB)) (hS.src zag) (zvi _) (by omega) rfl rfl ?_
 intro v1 L1 hO1 _;rw [List.nil_append,Nat.zero_add] at hO1
 refine zA (zN (Qs ?_))
 exact Zq rfl rfl (fun w hw=>⟨_,I,_,rfl,zAl _,hw.subL Zg,rfl,hO1⟩)
theorem zmS {I:Qw}{av:Option Addr}{n c:Nat}{xs:List Int}(hS:Sl I 1 QP av n c xs){bv:Option Addr}{n2 c2:Nat}{ys:List Int}(hT:Sl I 1 QP bv n2 c2 ys)(hn:n≤100000):Zu Tryz.prog 106 [.slice av n c,.slice bv n2 c2] I (.bool (decide (xs=ys))):=by
 intro g H w hw
 refine qe Tryz.func106 Tryz.ntmps106 hw ?_
 have hl1:=hS.len
 have hl2:=hT.len
 refine zR (zA (zN (Qk (zR ?_))))
 refine zM ?_
 refine zQ Qt ?_
 refine zM ?_
 refine zQ Qt ?_
 refine zC (zN ?_)
 refine zI ?_ ?_<;>intro hc10
 ·
  have hne:xs≠ys:=fun e=>by have h:=hc10;subst e;simp at h;omega
  refine zR (zA (zN (Qs (Qb ?_))))
  exact zr rfl rfl (by rw [decide_eq_false hne])
 have hnn:n=n2:=by have h:=hc10;simp at h;omega
 refine Qo (Qa (Qk (zR (zM ?_))))
 refine zQ Qt ?_
 refine zM (zN (Ql ?_))
 refine zU [(0,_),(1,_),(12,_)] (fun T L0 mz E I' loc'=>∃ (k:Nat),mz=n-k∧E=(13,.int .i64 k)::T∧I=I'∧L0=loc'∧k≤n∧xs.take k=ys.take k) ?_ (h:=⟨0,rfl,rfl,rfl,rfl,Nat.zero_le _,rfl⟩)
 rintro mz E I' loc' ⟨k,rfl,rfl,rfl,rfl,hk,hall⟩
 refine zR (zC (zN (Qk ?_)))
 refine zI ?_ ?_<;>intro hc14
 ·
  have hlt_k:k<n:=by have h:=hc14;simp at h;omega
  obtain ⟨x,hx⟩:=hS.at hlt_k
  obtain ⟨y,hy⟩:=hT.at (show k<n2 by omega)
  refine Qo (Qa (Qk (Ql (zR (zM ?_)))))
  refine zA (zN (Qk ?_))
  refine Yq mixed (by kernel_rfl) ?_
  refine zq (Qh rfl) ?_
  refine zq (Qh rfl) ?_
  refine zq (zX Qt hS) ?_
  refine zq (Qd rfl Qr (fun hg=>by exact zAe hS hx rfl)) ?_
  refine zq (Qh rfl) ?_
  refine zq (Qh rfl) ?_
  refine zq (zX Qt hT) ?_
  refine zq (Qd rfl Qr (fun hg=>by exact zAe hT hy rfl)) ?_
  refine zq (QI rfl rfl rfl) ?_
  refine Yp ?_
  refine Qa ?_
  refine zI ?_ ?_<;>intro hc24
  ·
   have hne:xs≠ys:=fun e=>by subst e;rw [hx] at hy;cases hy;simp at hc24
   refine zR (zA (zN (Qs (Qm (Qb (Qb (Qm ?_)))))))
   refine Qb ?_
   exact zr rfl rfl (by rw [decide_eq_false hne])
  have hxy:x=y:=by simpa using hc24
  refine Qo (Qg (Qa (Qf (zB ?_))))
  refine zM (Qc ?_)
  exact zm (h:=⟨n-(k+1),by omega,k+1,rfl,rfl,rfl,rfl,by omega,by rw [List.take_add_one,List.take_add_one,hall,hx,hy,hxy]⟩)
 have hge_k:n≤k:=by have h:=hc14;simp at h;omega
 have heq:xs=ys:=by rw [List.take_of_length_le (by omega),List.take_of_length_le (by omega)] at hall;exact hall
 refine QH (Qe (Qe (Qj (Qa (zR (zA (zN ?_)))))))
 refine Qs ?_
 exact zr rfl rfl (by rw [decide_eq_true heq])
theorem zi6 {I:Qw}{av:Option Addr}{n c:Nat}{xs:List Int}(hS:Sl I 1 QP av n c xs){bv:Option Addr}{n2 c2:Nat}{ys:List Int}(hT:Sl I 1 QP bv n2 c2 ys)(hn:n≤100000):Zu Tryz.prog 63 [.slice av n c,.slice bv n2 c2] I (.bool (decide (xs=ys))):=by
 intro g H w hw
 refine qe Tryz.func63 Tryz.ntmps63 hw ?_
 refine zR (zA ?_)
 refine zN (zR ?_)
 refine zM ?_
 refine zM ?_
 refine qc (vs:=[_,_]) rfl zrt (zmS hS hT hn) ?_
 refine zA (zN (Qs ?_))
 exact zr rfl rfl (by rfl)
theorem zmb {I:Qw}{av:Option Addr}{n c:Nat}{xs:List (List Int)}(hS:SlN I av n c xs){bv:Option Addr}{n2 c2:Nat}{ys:List (List Int)}(hT:SlN I bv n2 c2 ys)(hn:n≤100000)(hn3:∀ x∈xs,x.length≤100000):Zu Tryz.prog 82 [.slice av n c,.slice bv n2 c2,.func (.func 63) #[] #[]] I (.bool (decide (xs=ys))):=by
 intro g H w hw
 refine qe Tryz.func82 Tryz.ntmps82 hw ?_
 have hl1:=hS.len
 have hl2:=hT.len
 obtain ⟨hs,hS⟩:=hS
 have hH:=hS.1
 obtain ⟨gs,hT⟩:=hT
 have hG:=hT.1
 refine zR (zA (zN (Qk (zR ?_))))
 refine zM ?_
 refine zQ Q0 ?_
 refine zM ?_
 refine zQ Q0 ?_
 refine zC (zN ?_)
 refine zI ?_ ?_<;>intro hc14
 ·
  have hne:xs≠ys:=fun e=>by have h:=hc14;subst e;simp at h;omega
  refine zR (zA (zN (Qs (Qb ?_))))
  exact zr rfl rfl (by rw [decide_eq_false hne])
 have hnn:n=n2:=by have h:=hc14;simp at h;omega
 refine Qo (Qa (Qk (zR (zM ?_))))
 refine zQ Q0 ?_
 refine zM (zN (Ql ?_))
 refine zU [(1,_),(2,_),(15,_),(16,_)] (fun T L0 mz E I' loc'=>∃ (k:Nat),mz=n-k∧E=(17,.int .i64 k)::T∧I=I'∧L0=loc'∧k≤n∧xs.take k=ys.take k) ?_ (h:=⟨0,rfl,rfl,rfl,rfl,Nat.zero_le _,rfl⟩)
 rintro mz E I' loc' ⟨k,rfl,rfl,rfl,rfl,hk,hall⟩
 refine zR (zC (zN (Qk ?_)))
 refine zI ?_ ?_<;>intro hc18
 ·
  have hlt_k:k<n:=by have h:=hc18;simp at h;omega
  obtain ⟨x,u,hx,hu,hP⟩:=hS.at hlt_k
  obtain ⟨y,v,hy,hv,hQ⟩:=hT.at (show k<n2 by omega)
  refine Qo (Qa (Qk (Ql (zR (zM ?_)))))
  refine zV (zX Q0 hH) ?_
  refine zV (Qd rfl QJ (fun hg=>by exact zAe hH hx rfl)) ?_
  refine zA ?_
  refine zA ?_
  refine zN (zR ?_)
  refine zM ?_
  refine zM ?_
  refine zV (zX Q0 hG) ?_
  refine zV (Qd rfl QJ (fun hg=>by exact zAe hG hy rfl)) ?_
  refine zA ?_
  refine zN (zR ?_)
  refine zM ?_
  refine zM ?_
  refine zM ?_
  refine qc (vs:=[_,_]) rfl zpy (zi6 hP hQ (by rw [←hP.len];exact hn3 _ (List.mem_of_getElem? hu))) ?_
  refine zO (zN ?_)
  refine zI ?_ ?_<;>intro hc30
  ·
   have hne:xs≠ys:=fun e=>by subst e;rw [hu] at hv;cases hv;simp at hc30
   refine zR (zA (zN (Qs (Qm (Qb (Qb (Qm ?_)))))))
   refine Qb ?_
   exact zr rfl rfl (by rw [decide_eq_false hne])
  have huv:u=v:=by simpa using hc30
  refine Qo (Qg (Qa (Qf (zB ?_))))
  refine zM (Qc ?_)
  exact zm (h:=⟨n-(k+1),by omega,k+1,rfl,rfl,rfl,rfl,by omega,by rw [List.take_add_one,List.take_add_one,hall,hu,hv,huv]⟩)
 have hge_k:n≤k:=by have h:=hc18;simp at h;omega
 have heq:xs=ys:=by rw [List.take_of_length_le (by omega),List.take_of_length_le (by omega)] at hall;exact hall
 refine QH (Qe (Qe (Qj (Qa (zR (zA (zN ?_)))))))
 refine Qs ?_
 exact zr rfl rfl (by rw [decide_eq_true heq])
end
section
open Go Go.Kn Go.Proofs
theorem zgi {rows:List (List Int)}{cl:List Int}{l:Nat}:0<(Y3 rows cl l).length:=by
 have hne:zgt rows cl l≠[]:=fun e=>by
  have h1:=ziR (rows:=rows) (cl:=cl) (l:=l)
  have h2:=zjM (rows:=rows) (l:=l)
  rw [e] at h1;simp at h1;omega
 obtain ⟨h1,_⟩:=WB hne
 rw [X8] at h1
 obtain ⟨x,hx,e⟩:=List.mem_map.1 h1
 refine List.length_pos_of_mem (a:=x) ?_
 unfold Y3
 rw [List.mem_filter]
 exact ⟨hx,by rw [e,X8];simp⟩
theorem znu {rows:List (List Int)}{cl:List Int}{k:Nat}(h:(Y3 rows cl k).any (fun y=>(rows.getD 0 []).getD k 0==y)=true):(rows.getD 0 []).getD k 0=JN rows cl k:=by unfold JN;rw [if_pos h]
theorem zr8 {rows:List (List Int)}{cl:List Int}{k:Nat}(h:(Y3 rows cl k).any (fun y=>(rows.getD 0 []).getD k 0==y)=false):(Y3 rows cl k).getD 0 0=JN rows cl k:=by unfold JN;rw [if_neg (by rw [h];decide)]
def zeB:Em:=⟨0,0,0⟩
theorem zcA {rows:List (List Int)}{cl:List Int}{es lf:List Em}{k:Nat}(hl:lf=lfK es k)(h:(decide ((lf.length:Int)>0)&&((lf.getD 0 zeB).locus==(k:Int)))=true):(lf.getD 0 zeB).code=UP rows cl es k∧lf.drop 1=lfK es (k+1)∧0<lf.length:=by
 cases lf with
 | nil=>simp at h
 | cons e r=>
  have he:e.locus=(k:Int):=by simpa using h
  exact ⟨(zo9 hl.symm he).symm,(zoW hl.symm he).symm,by simp⟩
theorem zlr {rows:List (List Int)}{cl:List Int}{es lf:List Em}{k:Nat}(hl:lf=lfK es k)(h:(decide ((lf.length:Int)>0)&&((lf.getD 0 zeB).locus==(k:Int)))=false):JN rows cl k=UP rows cl es k∧lf=lfK es (k+1):=by
 cases lf with
 | nil=>exact ⟨(zpS hl.symm).symm,(zo3 hl.symm).symm⟩
 | cons e r=>
  have he:¬e.locus=(k:Int):=by
   intro he
   have h3:(e.locus==(k:Int))=false:=by simpa using h
   rw [he] at h3;simp at h3
  exact ⟨(zwA hl.symm he).symm,(zv7 hl.symm he).symm⟩
theorem Wz {rows:List (List Int)}{cl:List Int}{es:List Em}:(Vr rows cl es).length=(rows.getD 0 []).length:=by unfold Vr;simp
end
end Go.Proofs.YtodakphagkommaaGreatDoor
section
namespace Go
def Exit.straight (Q:Exit→Act→World→Prop):Exit→Act→World→Prop
 | .goto _,_,_=>False
 | .normal,a,w=>Q .normal a w
 | .exit i,a,w=>Q (.exit i) a w
 | .ret,a,w=>Q .ret a w
 | .panic c,a,w=>Q (.panic c) a w
 | .outgrown,a,w=>Q .outgrown a w
section
variable {P:Program} {F:Fence} {n:Nat} {b:Frame} {a:Act} {k:List Item} {cs:List Frame} {w:World} {Q:Exit→Act→World→Prop}
theorem VR {c:Code}:step P (lone (b.atR a (.code (.scope c)::k)) cs w)= .next (lone (b.atR a (.code c:: .inScope c::k)) cs w):=
 step_lone_go (by simp [stepG,stepG.exec,Frame.atR])
theorem zcc {c:Code}:step P (lone (b.atR a (.inScope c::k)) cs w)= .next (lone (b.atR a k) cs w):=
 step_lone_go (by simp [stepG,stepG.exec,Frame.atR])
theorem UL {c:Code}(h:c.wpIn F n P (Exit.straight Q) a w):(Code.scope c).wpIn F n P Q a w:=by
 intro b k cs hro hb hr
 have h0:(lone (b.atR a (.code (.scope c)::k)) cs w).fenced P F:=fenced_calm hb hr rfl
 obtain ⟨e,a₁,w₁,hq,harr⟩:=h b (.inScope c::k) cs hro hb hr
 cases e with
 | normal=>exact ⟨.normal,a₁,w₁,hq,.head h0 VR (StepsIn.trans harr (.one (fenced_calm hb hr rfl) zcc))⟩
 | exit id=>
  have hx:exitTo id (.inScope c::k)=exitTo id k:=by simp [exitTo]
  exact ⟨_,a₁,w₁,hq,fun k' hk=>.head h0 VR (harr.1 k' (by rw [hx];exact hk)),
   fun hr' hk=>let ⟨k₁,h1,h2⟩:=harr.2 hr' (by rw [hx];exact hk);⟨k₁,h1,.head h0 VR h2⟩⟩
 | goto l=>exact hq.elim
 | ret=>exact ⟨_,a₁,w₁,hq,.of_steps (.one h0 VR) harr⟩
 | panic ch=>exact ⟨_,a₁,w₁,hq,.of_steps (.one h0 VR) harr⟩
 | outgrown=>exact ⟨_,a₁,w₁,hq,.of_steps (.one h0 VR) harr⟩
end
end Go
namespace Go.Kn
open Go
section
variable {C:Cx} {Q:Exit→Act→World→Prop} {E:Env} {I:Qw} {loc:Loc}
theorem zqv {c:Code}(h:X C (Exit.straight Q) c E I loc):X C Q (.scope c) E I loc:=fun a w ha hw=>UL (h a w ha hw)
theorem ztd {l:Nat}(h:At C Q .normal E I loc):X C Q (.label l) E I loc:=fun a w ha hw=>wpIn_label (h a w ha hw)
theorem Jz (h:At C Q .ret E I loc):At C (Exit.straight Q) .ret E I loc:=h
theorem zf7 {e:Exit}{loc':Loc}(h:loc=loc')(hx:At C Q e E I loc'):At C Q e E I loc:=h ▸ hx
variable {S:GS} {dst:Option Nat} {ty:TypeId} {pos:String} {af:Array Edge} {gd:Option (Nat×Bool)} {x y:Operand}
theorem Ww {P:Program}{w:World}{t e d:Nat}{q:Option Addr}(hT:P.underlying t=some (.pointer e)):(Op.equalIn (d+1) t (.pointer q) (.pointer none)).run P w= .ok q.isNone w:=by
 unfold Op.equalIn
 rw [Sem.run_bind,run_underlying hT]
 cases q<;>rfl
theorem UV {t t' e:Nat}{q:Option Addr}(hx:QE S E x=some (.pointer q))(hy:QE S E y=some (.pointer none))(hT:C.P.underlying t=some (.pointer e)):QZ C S E I loc ⟨dst,.binOp .eql t x y t',ty,pos,af,gd⟩ (.bool q.isNone):=
 .of (by intro c e;cases e) fun a w ha hg hc _=>by
  have e1:∀ op x y t,(eqGuard op t x y (.pointer q) (.pointer none)).run C.P w= .ok () w:=by intros;unfold eqGuard;rename_i op _ _ _;cases op<;>rfl
  have e2:(Op.equal t (.pointer q) (.pointer none)).run C.P w= .ok q.isNone w:=Ww (d:=9999) hT
  simp only [execOp,Qn ha hg hc hx,Qn ha hg hc hy,Sem.run_bind,e1,Result.andThen,binOp,e2,Sem.run_pure]
end
end Go.Kn
end
namespace Go.Proofs.YtodakphagkommaaGreatDoor
section
open Go Go.Kn Go.Proofs
theorem ZW:AgT Tryz.prog 26 4:=.of (by kernel_rfl)
theorem zlq:AgT Tryz.prog 67 3:=.of (by kernel_rfl)
theorem zlB:Q3 Tryz.prog 124 0 0:=.of (by kernel_rfl)
theorem Yg:Q3 Tryz.prog 26 3 3:=.of (by kernel_rfl)
theorem XB:Q3 Tryz.prog 67 2 2:=.of (by kernel_rfl)
theorem zul:Fun Tryz.prog 51:=.of Tryz.func51 (by kernel_rfl) (by kernel_rfl)
theorem zu4:Fun Tryz.prog 52:=.of Tryz.func52 (by kernel_rfl) (by kernel_rfl)
theorem zjx:Fun Tryz.prog 55:=.of Tryz.func55 (by kernel_rfl) (by kernel_rfl)
theorem zwS:Fun Tryz.prog 56:=.of Tryz.func56 (by kernel_rfl) (by kernel_rfl)
theorem zwp:Fun Tryz.prog 97:=.of Tryz.func97 (by kernel_rfl) (by kernel_rfl)
theorem zuo:Fun Tryz.prog 98:=.of Tryz.func98 (by kernel_rfl) (by kernel_rfl)
theorem zur:Fun Tryz.prog 99:=.of Tryz.func99 (by kernel_rfl) (by kernel_rfl)
theorem zdH:PlT Tryz.prog 26 #[(0,1),(1,1),(2,1),(3,1)] (.agg #[(.int .i64 0),(.slice none 0 0),(.slice none 0 0),(.slice none 0 0)]):=⟨.of (by kernel_rfl),by kernel_rfl,fun w=>by kernel_rfl⟩
theorem zsR:ScT Tryz.prog 122:=.of (by kernel_rfl)
theorem zji:SzT Tryz.prog 124 1:=.of (by kernel_rfl)
theorem Jb:SzT Tryz.prog 26 4:=.of (by kernel_rfl)
theorem zuX:SzT Tryz.prog 67 3:=.of (by kernel_rfl)
theorem zo0:Yz Tryz.prog 124 (.agg #[.nilFunc]):=.of (by kernel_rfl)
theorem zdZ:Yz Tryz.prog 26 (.agg #[(.int .i64 0),(.slice none 0 0),(.slice none 0 0),(.slice none 0 0)]):=.of (by kernel_rfl)
theorem zyM:Yz Tryz.prog 67 (.agg #[(.int .i64 0),(.int .i64 0),(.int .i64 0)]):=.of (by kernel_rfl)
def zxY (I:Qw)(r:Nat):Prop:=I r=some (Z0 (Value.int .i64) rsV rsM)
theorem zxY.mono {I I':Qw}{r:Nat}(h:zxY I r)(hI:HLe I I'):zxY I' r:=hI _ _ h
theorem zl8 (r:Int):(r≠1∧r≠2∧r≠3∧ZH rsM r=none)∨∃ f,ZH rsM r=some f∧Fun Tryz.prog f∧∀ (I:Qw) (code:Int) (b:Bool),Zu Tryz.prog f [.int .i64 code,.bool b] I (.bool (rsF r code b)):=by
 by_cases h1:r=1
 ·
  subst h1;exact .inr ⟨_,rfl,zwp,zzr⟩
 by_cases h2:r=2
 ·
  subst h2;exact .inr ⟨_,rfl,zuo,zy9⟩
 by_cases h3:r=3
 ·
  subst h3;exact .inr ⟨_,rfl,zur,zy4⟩
 exact .inl ⟨h1,h2,h3,by unfold rsM;simp [ZH,Ne.symm h1,Ne.symm h2,Ne.symm h3]⟩
set_option maxHeartbeats 40000000 in
theorem zpT {I:Qw} {av:Option Addr} {n c:Nat} {xs:List Int} (hS:Sl I 1 QP av n c xs) {bv:Option Addr} {n2 c2:Nat} {rows:List (List Int)} (hVn:SlN I bv n2 c2 rows) (hn2:n2≤100000) {dv:Option Addr} {n3 c3:Nat} {es:List Em} (hEs:Sl I 3 Yo dv n3 c3 es) (hn3:n3≤100000) (hnx:n≤100000) (hDb:V5 I) (no:Int):Z4 Tryz.prog 25 [.slice bv n2 c2,.int .i64 no,.slice av n c,.slice dv n3 c3] I [] (zx3 rows no xs es):=by
 intro g H w hw
 refine qe Tryz.func25 Tryz.ntmps25 hw ?_
 have hIc:=zAl I
 have hlV:=hVn.len
 subst hlV
 have hEl:=hEs.len
 subst hEl
 have hVn9:=hVn
 obtain ⟨hs,hV⟩:=hVn9
 have hH:=hV.1
 refine zR ?_
 refine Qv zdZ rfl rfl (fun b_8=>?_)
 refine zA ?_
 refine zN (zR ?_)
 refine zM ?_
 refine zM ?_
 refine QA (cap:=[]) (vs:=[_,_]) rfl rfl zul .nil (zqh hS hVn hn2 hDb) rfl rfl ?_
 rintro vv1 I1 L1 hI1 ⟨rfl,av4,c4,rfl,hRt⟩
 have hS:=hS.mono hI1;have hVn:=hVn.mono hI1;have hV:=hV.mono hI1;have hH:=hH.mono hI1;have hEs:=hEs.mono hI1;have hIc:=hIc.trans hI1
 refine zM ?_
 refine zE ?_
 refine zE ?_
 refine zA ?_
 refine zA (zN (Qk (zR ?_)))
 refine zM ?_
 refine zC (zN ?_)
 refine zI ?_ ?_<;>intro hc28
 ·
  have hcE:Yk rows xs≠0:=by simpa using hc28
  refine zR ?_
  refine zV (Qq rfl ZW (fun hg=>by exact Cells.g0) rfl) ?_
  refine zM ?_
  refine zh Jb ?_
  refine zA (zN (Qs (Qb ?_)))
  first
  | exact Zp rfl rfl rfl ZW (vs:=ZT 0 none 0 0 none 0 0 none 0 0) (by repeat (first | exact zAj | apply zAi)) rfl (fun w hw=>⟨_,_,[],rfl,hIc,hw.drop,rfl,_,by rw [zc8 hcE]<;>rfl,.inr ⟨by rw [zc8 hcE];exact hcE,_,_,_,_,_,_,_,_,_,rfl,.nil,.nil,.nil⟩⟩)
 have hcE:Yk rows xs=0:=by simpa using hc28
 have hr0:YX rows=0:=by cases Decidable.em (YX rows=0) with
  | inl h=>exact h
  | inr h=>exact absurd ((zbm h).1.symm.trans hcE) h
 obtain ⟨hr1,hr6,hr64,hrr⟩:=JE hr0
 obtain ⟨x0,v0,hx0,hv0,hQ0⟩:=hV.at (k:=0) (by omega)
 have hg0:rows.getD 0 []=v0:=QN hv0
 have hQ0l:=hQ0.len
 have hg1:(rows.getD 0 []).length=v0.length:=by rw [hg0]
 rw [zdB hcE] at hRt ⊢
 refine Qo (Qa (Qk (zR (zM ?_))))
 refine zC ?_
 refine zM ?_
 refine QV 2 rfl rfl rfl ?_
 refine zJ (Qh rfl) ?_
 refine zJ (QI rfl rfl rfl) ?_
 refine Zs rfl rfl rfl rfl rfl ?_
 refine zN ?_
 refine zI ?_ ?_<;>intro hc36
 ·
  refine zR ?_
  refine zV (Qq rfl ZW (fun hg=>by exact Cells.g0) rfl) ?_
  refine zh Jb ?_
  refine zA (zN (Qs (Qb ?_)))
  first
  | exact Zp rfl rfl rfl ZW (vs:=ZT 0 none 0 0 none 0 0 none 0 0) (by repeat (first | exact zAj | apply zAi)) rfl (fun w hw=>⟨_,_,[],rfl,hIc,hw.drop,rfl,_,by rw [zln hcE hc36]<;>rfl,.inr ⟨by rw [zln hcE hc36];decide,_,_,_,_,_,_,_,_,_,rfl,.nil,.nil,.nil⟩⟩)
 refine Qo (Qa (zR ?_))
 refine QA (cap:=[]) (vs:=[]) rfl rfl zu4 .nil (zlc _) rfl rfl ?_
 rintro vv2 I2 L2 hI2 ⟨rfl,rm,rfl,hRm⟩
 have hS:=hS.mono hI2;have hVn:=hVn.mono hI2;have hH:=hH.mono hI2;have hEs:=hEs.mono hI2;have hRt:=hRt.mono hI2;have hQ0:=hQ0.mono hI2;have hIc:=hIc.trans hI2
 have hRm:zxY I2 rm:=hRm
 refine zA ?_
 refine zA (zN (Qk (Qk ?_)))
 refine JK (loc':=(b_8,.cells (ZT 0 none 0 0 none 0 0 none 0 0).toArray 26 (0,0))::[]) rfl ?_
 refine Qf (zM ?_)
 refine zQ Vu ?_
 refine zM (zN (Ql ?_))
 refine zU [(0,_),(1,_),(2,_),(3,_),(8,_),(10,_),(11,_),(39,_),(40,_)] (fun T L0 mz E I' loc'=>∃ (k:Nat) (l:Int),mz=es.length-k∧E=(12,.int .i64 l)::(41,.int .i64 k)::T∧HLe I2 I'∧(b_8,.cells (ZT 0 none 0 0 none 0 0 none 0 0).toArray 26 (0,0))::[]=loc'∧k≤es.length∧ -1≤l∧JZ rows (rows.getD 0 []).length (-1) es=JZ rows (rows.getD 0 []).length l (es.drop k)) ?_ (h:=⟨0,(-1),rfl,rfl,zAl _,rfl,Nat.zero_le _,Int.le_refl _,rfl⟩)
 rintro mz E J3 loc' ⟨k,l,rfl,rfl,hJ,rfl,hk,hlm,hgo⟩
 have hS:=hS.mono hJ;have hVn:=hVn.mono hJ;have hH:=hH.mono hJ;have hEs:=hEs.mono hJ;have hRt:=hRt.mono hJ;have hQ0:=hQ0.mono hJ;have hRm:=hRm.mono hJ;have hIc:=hIc.trans hJ
 have hB0:=hJ
 refine zR (zC (zN (Qk ?_)))
 refine zI ?_ ?_<;>intro hc42
 ·
  have hlt_k:k<es.length:=by have h:=hc42;simp at h;omega
  obtain ⟨e,he⟩:=hEs.at hlt_k
  refine Qo (Qa (Qk (Ql (zR ?_))))
  refine zV (zX Vu hEs) ?_
  refine zV (Qq rfl zlq (fun hg=>by exact zAm hEs he) rfl) ?_
  refine Qv zyM rfl rfl (fun b_14=>?_)
  refine zh zuX ?_
  refine zN (Qk ?_)
  obtain ⟨h1,h2,h3,hget⟩ | ⟨f,hget,hFf,hCf⟩:=zl8 e.reason
  ·
   refine Qf (zM ?_)
   refine zF XB ?_
   refine zL Qr ?_
   refine zV (zdR hget (m:=rsM) (ek:=Value.int .i64) (ev:=rsV) (a:=e.reason) zaH ZQ rfl rfl (fun _=>.inl hRm)) ?_
   refine zM ?_
   refine zE ?_
   refine zE ?_
   refine Qv zo0 rfl rfl (fun b_15=>?_)
   refine zh zji ?_
   refine zA (zN (Qk (Qk ?_)))
   refine Zn (b:=b_14) (by repeat (first | exact Zc.here | apply Zc.there)) (fun I4 hI4 hE14=>?_)
   have hIc:=hIc.trans hI4
   have hD:=zAl I4
   refine K5 mixed ?_
   refine zT 0 rfl (Qh rfl) hD ?_
   refine zT 1 rfl (Yw rfl) hD ?_
   refine zT 2 rfl (Qh rfl) hD ?_
   refine zW 3 54 hD ?_
   refine zW 4 54 hD ?_
   refine zW 5 54 hD ?_
   refine zW 6 54 hD ?_
   refine zT 7 rfl (Va rfl rfl rfl) hD ?_
   refine zT 8 rfl (Qh rfl) hD ?_
   refine zW 9 60 hD ?_
   refine zW 10 60 hD ?_
   refine zW 11 60 hD ?_
   refine zW 12 60 hD ?_
   refine zW 13 60 hD ?_
   refine zT 14 rfl (Va rfl rfl rfl) hD ?_
   refine zT 15 rfl (Qh rfl) hD ?_
   refine zW 16 67 hD ?_
   refine zW 17 67 hD ?_
   refine zW 18 67 hD ?_
   refine zW 19 67 hD ?_
   refine zW 20 67 hD ?_
   refine zW 21 67 hD ?_
   refine zW 22 67 hD ?_
   refine zW 23 67 hD ?_
   refine zW 24 67 hD ?_
   refine zT 25 rfl (Va rfl rfl rfl) hD ?_
   refine QK (by kernel_rfl) ?_
   refine QW ?_
   refine Qa ?_
   refine zI ?_ ?_<;>intro hc77
   ·
    have hbe:=zvJ (rows:=rows) (m:=(rows.getD 0 []).length) (l:=l) h1 h2 h3
    refine zR ?_
    refine zV (Qq rfl ZW (fun hg=>by exact Cells.g1) rfl) ?_
    refine zh Jb ?_
    refine zA (zN (Qs (Qb (Qm (Qb (Qb (Qm ?_)))))))
    refine Qb ?_
    first
    | exact Zp rfl rfl rfl ZW (vs:=ZT 0 none 0 0 none 0 0 none 0 0) (by repeat (first | exact zAj | apply zAi)) rfl (fun w hw=>⟨_,_,[],rfl,hIc,hw.drop,rfl,_,by rw [Wm hcE hc36 (hgo.trans (Y4 he hbe))]<;>rfl,.inr ⟨by rw [Wm hcE hc36 (hgo.trans (Y4 he hbe))];decide,_,_,_,_,_,_,_,_,_,rfl,.nil,.nil,.nil⟩⟩)
   cases hc77
  refine Qf (zM ?_)
  refine zF XB ?_
  refine zL Qr ?_
  refine zV (zdr hget (m:=rsM) (ek:=Value.int .i64) (ev:=rsV) (a:=e.reason) zaH ZQ rfl rfl (fun _=>.inl hRm)) ?_
  refine zM ?_
  refine zE ?_
  refine zE ?_
  refine Qv zo0 rfl rfl (fun b_15=>?_)
  refine zh zji ?_
  refine zA (zN (Qk (Qk ?_)))
  obtain q1 | ⟨q1,q2⟩ | ⟨q1,q2⟩:=zmJ rows ((rows.getD 0 []).length) l e
  ·
   refine Zn (b:=b_15) (by repeat (first | exact Zc.here | apply Zc.there)) (fun I5 hI5 hb5=>?_)
   have hIc:=hIc.trans hI5
   have hC15:QY I5 [] b_15 0 (.func (.func f) #[] #[]):=.imm hb5 rfl
   refine Zn (b:=b_14) (by repeat (first | exact Zc.here | apply Zc.there)) (fun I6 hI6 hE14=>?_)
   have hIc:=hIc.trans hI6
   have hD:=zAl I6
   refine K5 mixed ?_
   refine zT 0 rfl (Qh rfl) hD ?_
   refine zT 1 rfl (Yw rfl) hD ?_
   refine zT 2 rfl (Qh rfl) hD ?_
   refine zw 3 54 rfl (Qi rfl Ys) hD ?_
   refine zw 4 54 rfl (Qd rfl Qr (fun hg=>by exact .imm hE14 rfl)) hD ?_
   refine zw 5 54 rfl (Qh rfl) hD ?_
   refine zw 6 54 rfl (QI rfl rfl rfl) hD ?_
   rw [q1]
   refine zT 7 rfl (ZR rfl rfl rfl) hD ?_
   refine zT 8 rfl (Qh rfl) hD ?_
   refine zW 9 60 hD ?_
   refine zW 10 60 hD ?_
   refine zW 11 60 hD ?_
   refine zW 12 60 hD ?_
   refine zW 13 60 hD ?_
   refine zT 14 rfl (Va rfl rfl rfl) hD ?_
   refine zT 15 rfl (Qh rfl) hD ?_
   refine zW 16 67 hD ?_
   refine zW 17 67 hD ?_
   refine zW 18 67 hD ?_
   refine zW 19 67 hD ?_
   refine zW 20 67 hD ?_
   refine zW 21 67 hD ?_
   refine zW 22 67 hD ?_
   refine zW 23 67 hD ?_
   refine zW 24 67 hD ?_
   refine zT 25 rfl (Va rfl rfl rfl) hD ?_
   refine QK (by kernel_rfl) ?_
   refine QW ?_
   refine Qa ?_
   refine zI ?_ ?_<;>intro hc77
   ·
    have hbe:=zwU (rows:=rows) (m:=(rows.getD 0 []).length) q1
    refine zR ?_
    refine zV (Qq rfl ZW (fun hg=>by exact Cells.g0) rfl) ?_
    refine zh Jb ?_
    refine zA (zN (Qs (Qb (Qm (Qb (Qb (Qm ?_)))))))
    refine Qb ?_
    first
    | exact Zp rfl rfl rfl ZW (vs:=ZT 0 none 0 0 none 0 0 none 0 0) (by repeat (first | exact zAj | apply zAi)) rfl (fun w hw=>⟨_,_,[],rfl,hIc,hw.drop,rfl,_,by rw [Wm hcE hc36 (hgo.trans (Y4 he hbe))]<;>rfl,.inr ⟨by rw [Wm hcE hc36 (hgo.trans (Y4 he hbe))];decide,_,_,_,_,_,_,_,_,_,rfl,.nil,.nil,.nil⟩⟩)
   cases hc77
  ·
   refine Zn (b:=b_15) (by repeat (first | exact Zc.here | apply Zc.there)) (fun I7 hI7 hb7=>?_)
   have hIc:=hIc.trans hI7
   have hC15:QY I7 [] b_15 0 (.func (.func f) #[] #[]):=.imm hb7 rfl
   refine Zn (b:=b_14) (by repeat (first | exact Zc.here | apply Zc.there)) (fun I8 hI8 hE14=>?_)
   have hIc:=hIc.trans hI8
   have hD:=zAl I8
   refine K5 mixed ?_
   refine zT 0 rfl (Qh rfl) hD ?_
   refine zT 1 rfl (Yw rfl) hD ?_
   refine zT 2 rfl (Qh rfl) hD ?_
   refine zw 3 54 rfl (Qi rfl Ys) hD ?_
   refine zw 4 54 rfl (Qd rfl Qr (fun hg=>by exact .imm hE14 rfl)) hD ?_
   refine zw 5 54 rfl (Qh rfl) hD ?_
   refine zw 6 54 rfl (QI rfl rfl rfl) hD ?_
   rw [q1]
   refine zT 7 rfl (ZR rfl rfl rfl) hD ?_
   refine zT 8 rfl (Qh rfl) hD ?_
   refine zw 9 60 rfl (Qi rfl Ys) hD ?_
   refine zw 10 60 rfl (Qd rfl Qr (fun hg=>by exact .imm hE14 rfl)) hD ?_
   refine zw 11 60 rfl (Qh rfl) hD ?_
   refine zw 12 60 rfl (ZB rfl Q0) hD ?_
   refine zw 13 60 rfl (QI rfl rfl rfl) hD ?_
   rw [q2]
   refine zT 14 rfl (ZR rfl rfl rfl) hD ?_
   refine zT 15 rfl (Qh rfl) hD ?_
   refine zW 16 67 hD ?_
   refine zW 17 67 hD ?_
   refine zW 18 67 hD ?_
   refine zW 19 67 hD ?_
   refine zW 20 67 hD ?_
   refine zW 21 67 hD ?_
   refine zW 22 67 hD ?_
   refine zW 23 67 hD ?_
   refine zW 24 67 hD ?_
   refine zT 25 rfl (Va rfl rfl rfl) hD ?_
   refine QK (by kernel_rfl) ?_
   refine QW ?_
   refine Qa ?_
   refine zI ?_ ?_<;>intro hc77
   ·
    have hbe:=zuE (rows:=rows) (l:=l) q2
    refine zR ?_
    refine zV (Qq rfl ZW (fun hg=>by exact Cells.g0) rfl) ?_
    refine zh Jb ?_
    refine zA (zN (Qs (Qb (Qm (Qb (Qb (Qm ?_)))))))
    refine Qb ?_
    first
    | exact Zp rfl rfl rfl ZW (vs:=ZT 0 none 0 0 none 0 0 none 0 0) (by repeat (first | exact zAj | apply zAi)) rfl (fun w hw=>⟨_,_,[],rfl,hIc,hw.drop,rfl,_,by rw [Wm hcE hc36 (hgo.trans (Y4 he hbe))]<;>rfl,.inr ⟨by rw [Wm hcE hc36 (hgo.trans (Y4 he hbe))];decide,_,_,_,_,_,_,_,_,_,rfl,.nil,.nil,.nil⟩⟩)
   cases hc77
  have h0e:0≤e.locus:=by have h:=of_decide_eq_false q1;omega
  have hle:e.locus.toNat<(rows.getD 0 []).length:=by have h:=of_decide_eq_false q2;omega
  have hle2:∀ r∈rows,e.locus.toNat<r.length:=fun r hr=>by rw [(hrr r hr).1];exact hle
  refine Zn (b:=b_15) (by repeat (first | exact Zc.here | apply Zc.there)) (fun I9 hI9 hb9=>?_)
  have hVn:=hVn.mono hI9;have hIc:=hIc.trans hI9;have hB0:=hB0.trans hI9
  have hC15:QY I9 [] b_15 0 (.func (.func f) #[] #[]):=.imm hb9 rfl
  refine Zn (b:=b_14) (by repeat (first | exact Zc.here | apply Zc.there)) (fun I10 hI10 hE14=>?_)
  have hVn:=hVn.mono hI10;have hC15:=hC15.mono hI10;have hIc:=hIc.trans hI10;have hB0:=hB0.trans hI10
  have hD:=zAl I10
  refine K5 mixed ?_
  refine zT 0 rfl (Qh rfl) hD ?_
  refine zT 1 rfl (Yw rfl) hD ?_
  refine zT 2 rfl (Qh rfl) hD ?_
  refine zw 3 54 rfl (Qi rfl Ys) hD ?_
  refine zw 4 54 rfl (Qd rfl Qr (fun hg=>by exact .imm hE14 rfl)) hD ?_
  refine zw 5 54 rfl (Qh rfl) hD ?_
  refine zw 6 54 rfl (QI rfl rfl rfl) hD ?_
  rw [q1]
  refine zT 7 rfl (ZR rfl rfl rfl) hD ?_
  refine zT 8 rfl (Qh rfl) hD ?_
  refine zw 9 60 rfl (Qi rfl Ys) hD ?_
  refine zw 10 60 rfl (Qd rfl Qr (fun hg=>by exact .imm hE14 rfl)) hD ?_
  refine zw 11 60 rfl (Qh rfl) hD ?_
  refine zw 12 60 rfl (ZB rfl Q0) hD ?_
  refine zw 13 60 rfl (QI rfl rfl rfl) hD ?_
  rw [q2]
  refine zT 14 rfl (ZR rfl rfl rfl) hD ?_
  refine zT 15 rfl (Qh rfl) hD ?_
  refine zw 16 67 rfl (Qi rfl zlB) hD ?_
  refine zw 17 67 rfl (Qd rfl zsR (fun hg=>by exact hC15.any)) hD ?_
  refine zw 18 67 rfl (Qi rfl Jl) hD ?_
  refine zw 19 67 rfl (Qd rfl Qr (fun hg=>by exact .imm hE14 rfl)) hD ?_
  refine zw 20 67 rfl (Qh rfl) hD ?_
  refine zw 21 67 rfl (Zf (us:=[]) (vs:=[_]) rfl rfl) hD ?_
  refine qd 22 rfl ?_
  refine QS (dj:=67) rfl rfl rfl ?_
  refine qc (vs:=[_,_]) rfl zos (zeo hVn hn2 hE14 h0e hle2) ?_
  refine Qc ?_
  refine zD hD ?_
  refine qd 23 rfl ?_
  refine QS (dj:=67) rfl rfl rfl ?_
  refine Y0 (cap:=[]) (vs:=[_,_]) rfl rfl hFf (hCf _ _ _) rfl rfl ?_
  refine Qc ?_
  refine zD hD ?_
  refine zw 24 67 rfl (Yw rfl) hD ?_
  refine zT 25 rfl (ZR rfl rfl rfl) hD ?_
  refine QK (by kernel_rfl) ?_
  refine QW ?_
  refine Qa ?_
  refine zI ?_ ?_<;>intro hc77
  ·
   have hbe:=zom q1 q2 hc77
   refine zR ?_
   refine zV (Qq rfl ZW (fun hg=>by exact Cells.g0) rfl) ?_
   refine zh Jb ?_
   refine zA (zN (Qs (Qb (Qm (Qb (Qb (Qm ?_)))))))
   refine Qb ?_
   first
   | exact Zp rfl rfl rfl ZW (vs:=ZT 0 none 0 0 none 0 0 none 0 0) (by repeat (first | exact zAj | apply zAi)) rfl (fun w hw=>⟨_,_,[],rfl,hIc,hw.drop,rfl,_,by rw [Wm hcE hc36 (hgo.trans (Y4 he hbe))]<;>rfl,.inr ⟨by rw [Wm hcE hc36 (hgo.trans (Y4 he hbe))];decide,_,_,_,_,_,_,_,_,_,rfl,.nil,.nil,.nil⟩⟩)
  have hbe:=zom q1 q2 hc77
  refine Qo (Qa (Qf ?_))
  refine zF Ys ?_
  refine zV (Qd rfl Qr (fun hg=>by exact .imm hE14 rfl)) ?_
  refine zA (Qc (Qg (Qa (Qf ?_))))
  refine zB ?_
  refine zM (Qc ?_)
  exact zm (h:=⟨es.length-(k+1),by omega,k+1,_,rfl,rfl,hB0,rfl,by omega,by omega,by rw [hgo,zaY he hbe]⟩)
 have hge_k:es.length≤k:=by have h:=hc42;simp at h;omega
 rw [zdU hge_k] at hgo
 refine QH (Qe (Qe (Qj (Qa (zR (zM ?_))))))
 refine zM ?_
 refine QA (cap:=[]) (vs:=[_]) rfl rfl zjx .nil (zcs hS (by omega)) rfl rfl ?_
 rintro vv11 I11 L11 hI11 ⟨rfl,hO1⟩
 have hH:=hH.mono hI11;have hEs:=hEs.mono hI11;have hRt:=hRt.mono hI11;have hQ0:=hQ0.mono hI11;have hIc:=hIc.trans hI11
 obtain ⟨va1,vc1,rfl⟩:=zaS hO1
 refine zM ?_
 refine QA (cap:=[]) (vs:=[_]) rfl rfl zwS .nil (zmj hEs (by omega)) rfl rfl ?_
 rintro vv12 I12 L12 hI12 ⟨rfl,hO2⟩
 have hH:=hH.mono hI12;have hEs:=hEs.mono hI12;have hRt:=hRt.mono hI12;have hQ0:=hQ0.mono hI12;have hIc:=hIc.trans hI12
 obtain ⟨va2,vc2,rfl⟩:=zaS hO2
 refine zV (QQ (ps:=[(0,_),(1,_),(2,_)]) [_,_,_,_] zdH rfl rfl) ?_
 refine YG rfl rfl Jb rfl rfl rfl rfl (by (repeat (first | exact Upd.here | apply Upd.there | apply QM))) ?_
 refine zN (Qk ?_)
 refine Vn hO2 zag (by decide) (by repeat (first | exact .cons .here .nil | exact QD | exact Qy | apply QC | apply QB)) (fun I13 hI13 af13 cf13 ef13 hEm2=>?_)
 cases ef13
 have hH:=hH.mono hI13;have hEs:=hEs.mono hI13;have hRt:=hRt.mono hI13;have hQ0:=hQ0.mono hI13;have hIc:=hIc.trans hI13
 refine Vn hO1 Qu (by decide) (by repeat (first | exact .cons .here .nil | exact QD | exact Qy | apply QC | apply QB)) (fun I14 hI14 af14 cf14 ef14 hCl=>?_)
 cases ef14
 have hH:=hH.mono hI14;have hEs:=hEs.mono hI14;have hRt:=hRt.mono hI14;have hQ0:=hQ0.mono hI14;have hEm2:=hEm2.mono hI14;have hIc:=hIc.trans hI14
 refine JK (loc':=[]++[(b_8,.cells (ZT no va1 n vc1 va2 es.length vc2 none 0 0).toArray 26 (0,0))]) rfl ?_
 refine Qf (zM ?_)
 refine zA (zN (Qk (zR ?_)))
 refine zM ?_
 refine zQ Q0 ?_
 refine zM (zN (Ql ?_))
 refine zU [(0,_),(8,_),(89,_),(90,_)] (fun T L0 mz E I' loc'=>∃ (k:Nat) (lf:List Em) (dva:Option Addr) (dn:Nat) (dc:Nat) (va3:Option Addr) (vc3:Nat) (L:Go.Kn.Loc),mz=(rows.getD 0 []).length-k∧E=(17,.slice dva dn dc)::(91,.int .i64 k)::T∧HLe I14 I'∧L++[(b_8,.cells (ZT no va1 n vc1 va2 es.length vc2 va3 k vc3).toArray 26 (0,0))]=loc'∧k≤(rows.getD 0 []).length∧lf=lfK es k∧Sl I' 3 Yo dva dn dc lf∧OwnS 3 1 (.slice va3 k vc3) k (((List.range k).map (UP rows xs es)).flatMap QP) L) ?_ (h:=⟨0,es,_,_,_,none,0,[],rfl,rfl,zAl _,rfl,Nat.zero_le _,rfl,hEs,OwnS.nil⟩)
 rintro mz E J15 loc' ⟨k,lf,dva,dn,dc,va3,vc3,L,rfl,rfl,hJ,rfl,hk,hlf,hLf,hO⟩
 have hH:=hH.mono hJ;have hRt:=hRt.mono hJ;have hQ0:=hQ0.mono hJ;have hEm2:=hEm2.mono hJ;have hCl:=hCl.mono hJ;have hIc:=hIc.trans hJ
 have hB2:=hJ
 have hLfl:=hLf.len
 subst hLfl
 refine zR (zC (zN (Qk ?_)))
 refine zI ?_ ?_<;>intro hc92
 ·
  have hlt_k:k<(rows.getD 0 []).length:=by have h:=of_decide_eq_true hc92;omega
  obtain ⟨rhs,hRh9⟩:=id hRt
  have hRh:=hRh9.1
  obtain ⟨rx,rv,hrx,hrv,hQ⟩:=hRh9.at hlt_k
  have hrv2:=zfl hcE hlt_k
  rw [hrv2] at hrv
  cases hrv
  have hrp:=zgi (rows:=rows) (cl:=xs) (l:=k)
  have hQl:=hQ.len
  have hq0:(Y3 rows xs k)[0]? =some ((Y3 rows xs k).getD 0 0):=QX rfl hrp
  have hk0:v0[k]? =some (v0.getD k 0):=QX rfl (by rw [←hg0];exact hlt_k)
  have hstl:=zeY (rows:=rows) (l:=k)
  have hrl:(Y3 rows xs k).length≤(stE rows k).length:=List.length_filter_le _ _
  refine Qo (Qa (Qk (Ql (zR (zM ?_)))))
  refine zV (zX Q0 hRh) ?_
  refine zV (Qd rfl QJ (fun hg=>by exact zAe hRh hrx rfl)) ?_
  refine zA ?_
  refine zA ?_
  refine zN (zR ?_)
  refine zM ?_
  refine zV (zX Qt hQ) ?_
  refine zV (Qd rfl Qr (fun hg=>by exact zAe hQ hq0 rfl)) ?_
  refine zA (zN ?_)
  refine zY [(0,_),(8,_),(17,_),(18,_),(89,_),(90,_),(91,_)] (fun T L0 E I' loc'=>∃ (b9:Int),E=(20,.int .i64 b9)::T∧HLe J15 I'∧L++[(b_8,.cells (ZT no va1 n vc1 va2 es.length vc2 va3 k vc3).toArray 26 (0,0))]=loc'∧b9=JN rows xs k) ?_ ?_
  ·
   have hKc21:=zAl J15
   refine zR (zM ?_)
   refine zM ?_
   refine zV (zX Q0 hH) ?_
   refine zV (Qd rfl QJ (fun hg=>by exact zAe hH hx0 rfl)) ?_
   refine zM ?_
   refine zV (zX Qt hQ0) ?_
   refine zV (Qd rfl Qr (fun hg=>by exact zAe hQ0 hk0 rfl)) ?_
   refine qc (vs:=[_,_]) rfl zcX (Kc hQ (by omega) _) ?_
   refine zN ?_
   refine zI ?_ ?_<;>intro hc106
   ·
    refine Qf (zM ?_)
    refine zV (zX Q0 hH) ?_
    refine zV (Qd rfl QJ (fun hg=>by exact zAe hH hx0 rfl)) ?_
    refine zM ?_
    refine zV (zX Qt hQ0) ?_
    refine zV (Qd rfl Qr (fun hg=>by exact zAe hQ0 hk0 rfl)) ?_
    refine zA (Qc ?_)
    first
    | exact VQ _ _ ⟨_,rfl,hKc21,rfl,by rw [←znu (rows:=rows) (cl:=xs) (k:=k) (by rw [hg0];exact hc106),hg0]⟩ (.cons rfl (.cons rfl (.cons rfl (.cons rfl (.cons rfl (.cons rfl (.cons rfl (.cons rfl .nil)))))))) .refl
   refine Qo ?_
   first
   | exact VQ _ _ ⟨_,rfl,hKc21,rfl,zr8 (by rw [hg0];exact hc106)⟩ (.cons rfl (.cons rfl (.cons rfl (.cons rfl (.cons rfl (.cons rfl (.cons rfl (.cons rfl .nil)))))))) .refl
  rintro E J16 loc' ⟨b9,rfl,hJ106,rfl,hb9⟩
  have hLf:=hLf.mono hJ106;have hB2:=hB2.trans hJ106
  refine zY [(0,_),(8,_),(89,_),(90,_),(91,_)] (fun T L0 E I' loc'=>∃ (r9:Int) (lf2:List Em) (ea:Option Addr) (en ec:Nat),E=(17,.slice ea en ec)::(20,.int .i64 r9)::T∧HLe J16 I'∧L++[(b_8,.cells (ZT no va1 n vc1 va2 es.length vc2 va3 k vc3).toArray 26 (0,0))]=loc'∧r9=UP rows xs es k∧lf2=lfK es (k+1)∧Sl I' 3 Yo ea en ec lf2) ?_ ?_
  ·
   have hKc23:=zAl J16
   refine zR (zM ?_)
   refine zQ Vu ?_
   refine zC ?_
   refine zM ?_
   refine QG 3 rfl rfl rfl ?_
   refine zK (Qh rfl) ?_
   refine zK (zX Vu hLf) ?_
   refine zK (Qi rfl Ys) ?_
   refine zK (Qd rfl Qr (fun hg=>by exact zAn (k:=0) hLf (QX (d:=zeB) rfl (by first | omega | (simp [ZV] at hg;omega))) rfl)) ?_
   refine zK (Qh rfl) ?_
   refine zK (QI rfl rfl rfl) ?_
   refine QL rfl rfl rfl rfl rfl ?_
   refine zN ?_
   refine zI ?_ ?_<;>intro hc123
   ·
    have hlf0:=(zcA (rows:=rows) (cl:=xs) hlf hc123).2.2
    refine Yq mixed (by kernel_rfl) ?_
    refine zq (Qh rfl) ?_
    refine zq (zX Vu hLf) ?_
    refine zq (Qi rfl Jl) ?_
    refine zq (Qd rfl Qr (fun hg=>by exact zAn (k:=0) hLf (QX (d:=zeB) rfl (by first | omega | (simp [ZV] at hg;omega))) rfl)) ?_
    refine zq (Qh rfl) ?_
    refine zq (W6 rfl rfl Vu (fun hg=>by omega)) ?_
    refine zq (ZM rfl) ?_
    refine zq (ZM rfl) ?_
    refine Yp ?_
    exact VQ _ _ ⟨_,lf.drop 1,_,_,_,rfl,hKc23,rfl,(zcA (rows:=rows) (cl:=xs) hlf hc123).1,(zcA (rows:=rows) (cl:=xs) hlf hc123).2.1,hLf.drop hlf0⟩ (.cons rfl (.cons rfl (.cons rfl (.cons rfl (.cons rfl (.cons rfl (.cons rfl .nil))))))) .refl
   refine Qo ?_
   exact VQ _ _ ⟨_,lf,_,_,_,rfl,hKc23,rfl,hb9.trans (zlr (rows:=rows) (cl:=xs) hlf hc123).1,(zlr (rows:=rows) (cl:=xs) hlf hc123).2,hLf⟩ (.cons rfl (.cons rfl (.cons rfl (.cons rfl (.cons rfl (.cons rfl (.cons rfl .nil))))))) .refl
  rintro E J17 loc' ⟨r9,lf2,ea,en,ec,rfl,hJ123,rfl,hr9,hlf2,hLf2⟩
  have hB2:=hB2.trans hJ123
  refine Qf ?_
  refine zF Yg ?_
  refine zV (Qd rfl QJ (fun hg=>by (repeat (first | exact zAg rfl | apply zAf | apply zAh)))) ?_
  refine zM ?_
  refine Qp (ps:=[(0,_)]) (m:=[QP r9]) Za rfl (.cons rfl (.nil)) rfl (by simp [Qu]) (by decide) (by decide) rfl rfl (fun b_133=>?_)
  refine QU (v:=_) (ys:=[r9].flatMap QP) (L:=L) rfl rfl Za hO (by repeat (first | exact .cons .here .nil | exact QD | exact Qy | apply QC | apply QB)) ⟨rfl,fun _=>rfl,by repeat (first | exact zAj | apply zAi | apply zAk)⟩ (V0 [r9]) (by omega) rfl rfl ?_
  intro v9 L9 hO9 _;rw [←List.flatMap_append] at hO9;obtain ⟨va9,vc9,rfl⟩:=zaS hO9
  refine zF Yg ?_
  refine ZE rfl rfl Zm rfl rfl (by (repeat (first | exact Upd.here | apply Upd.there | apply QM))) rfl ?_
  refine Qc (Qg (Qa (Qf (zB ?_))))
  refine zM (Qc ?_)
  exact zm (h:=⟨(rows.getD 0 []).length-(k+1),by omega,k+1,_,_,_,_,_,_,_,rfl,rfl,hB2,rfl,by omega,hlf2,hLf2,by rw [KN,←hr9];exact hO9⟩)
 have hge_k:(rows.getD 0 []).length≤k:=by have h:=of_decide_eq_false hc92;omega
 obtain rfl:k=(rows.getD 0 []).length:=by omega
 refine QH (Qe (Qe (Qj (Qa (zR ?_)))))
 refine zV (Qq rfl ZW (fun hg=>by (repeat (first | exact zAj | apply zAi | apply zAk))) rfl) ?_
 refine YG rfl rfl Jb rfl rfl rfl rfl (by (repeat (first | exact Upd.here | apply Upd.there | apply QM))) ?_
 refine zA (zN (Qs ?_))
 first
 | exact Zp rfl rfl rfl ZW (vs:=ZT no va1 n vc1 va2 es.length vc2 va3 (rows.getD 0 []).length vc3) (by repeat (first | exact zAj | apply zAi | apply zAk)) rfl (fun w hw=>by obtain ⟨I9,av9,c9,h1',h2',e9,h4'⟩:=OwnS.freeze (R:=[_]) hO Qu (by decide) hw;cases e9;exact ⟨_,I9,[],rfl,hIc.trans h1',h2'.drop,rfl,_,by rw [zfD hcE hc36 hgo]<;>rfl,.inl ⟨zfD hcE hc36 hgo,va1,_,_,va2,_,_,va3,_,_,rfl,hCl.mono h1',hEm2.mono h1',h4'⟩⟩)
end
section
open Go Go.Kn Go.Proofs
def UA (rows:List (List Int))(no:Int)(cl:List Int)(es:List Em)(rd:List Int):Int:=if Uu rows no cl es≠0 then Uu rows no cl es else if rd=Vr rows cl es then 0 else 430
theorem zqe {rows:List (List Int)}{no:Int}{cl:List Int}{es:List Em}{rd:List Int}(h:Uu rows no cl es≠0):UA rows no cl es rd=Uu rows no cl es:=by unfold UA;rw [if_pos h]
theorem zwP {rows:List (List Int)}{no:Int}{cl:List Int}{es:List Em}{rd:List Int}(h:Uu rows no cl es=0)(h2:rd≠Vr rows cl es):UA rows no cl es rd=430:=by unfold UA;rw [if_neg (by omega),if_neg h2]
theorem zmz {rows:List (List Int)}{no:Int}{cl:List Int}{es:List Em}{rd:List Int}(h:Uu rows no cl es=0)(h2:rd=Vr rows cl es):UA rows no cl es rd=0:=by unfold UA;rw [if_neg (by omega),if_pos h2]
theorem zfs {rows:List (List Int)}{no:Int}{cl:List Int}{es:List Em}{rd:List Int}(h:UA rows no cl es rd=0):Uu rows no cl es=0∧rd=Vr rows cl es:=by
 unfold UA at h
 split at h
 ·
  rename_i h1;exact absurd h h1
 ·
  rename_i h1
  split at h
  ·
   rename_i h2;exact ⟨by omega,h2⟩
  ·
   cases h
theorem zjI {rows:List (List Int)}{no:Int}{cl:List Int}{es:List Em}(h:Uu rows no cl es=0):Yk rows cl=0:=by
 unfold Uu at h
 split at h
 ·
  rename_i h1;exact absurd h h1
 ·
  rename_i h1;omega
theorem KS {rows:List (List Int)}{cl:List Int}(h:Yk rows cl=0):YX rows=0:=by
 cases Decidable.em (YX rows=0) with
 | inl e=>exact e
 | inr e=>exact absurd ((zbm e).1.symm.trans h) e
theorem zx3.opn {rows:List (List Int)}{no:Int}{cl:List Int}{es:List Em}{v:Value}{I':Qw}{L:Go.Kn.Loc}(h:zx3 rows no cl es v I' L):L=[]∧∃ (no2:Int) (cl2:List Int) (es2:List Em) (rd2:List Int) (a1:Option Addr) (n1 c1:Nat) (a2:Option Addr) (n2 c2:Nat) (a3:Option Addr) (n3 c3:Nat),
  v= .tuple #[.agg (ZT no2 a1 n1 c1 a2 n2 c2 a3 n3 c3).toArray,.int .i64 (Uu rows no cl es)]∧Sl I' 1 QP a1 n1 c1 cl2∧Sl I' 3 Yo a2 n2 c2 es2∧Sl I' 1 QP a3 n3 c3 rd2∧
  (Uu rows no cl es=0→no2=no∧cl2=cl∧es2=es∧rd2=Vr rows cl es)∧(Uu rows no cl es≠0→no2=0∧cl2=[]∧es2=[]∧rd2=[]):=by
 obtain ⟨rfl,vs,rfl,h⟩:=h
 rcases h with ⟨h0,a1,n1,c1,a2,n2,c2,a3,n3,c3,rfl,h1,h2,h3⟩ | ⟨h0,a1,n1,c1,a2,n2,c2,a3,n3,c3,rfl,h1,h2,h3⟩
 ·
  exact ⟨rfl,no,cl,es,Vr rows cl es,a1,n1,c1,a2,n2,c2,a3,n3,c3,rfl,h1,h2,h3,fun _=>⟨rfl,rfl,rfl,rfl⟩,fun h=>absurd h0 h⟩
 ·
  exact ⟨rfl,0,[],[],[],a1,n1,c1,a2,n2,c2,a3,n3,c3,rfl,h1,h2,h3,fun h=>absurd h h0,fun _=>⟨rfl,rfl,rfl,rfl⟩⟩
/-! ### Signs -/
def nzF (row:List Int)(k:Nat):Nat:=((row.take k).filter fun c=>c != 0).length
theorem zis {row:List Int}{k:Nat}{c:Int}(h:row[k]? =some c)(hc:(c==0)=false):nzF row (k+1)=nzF row k+1:=by
 unfold nzF;rw [List.take_add_one,h,List.filter_append,List.length_append]
 have h2:(c != 0)=true:=by simpa [bne] using hc
 simp [h2]
theorem zpw {row:List Int}{k:Nat}{c:Int}(h:row[k]? =some c)(hc:(c==0)=true):nzF row (k+1)=nzF row k:=by
 unfold nzF;rw [List.take_add_one,h,List.filter_append,List.length_append]
 have h2:(c != 0)=false:=by simpa [bne] using hc
 simp [h2]
def zyE (ws:List Wr)(rows:List (List Int)):Prop:=∀ (i:Nat) (x:Wr) (row:List Int),ws[i]? =some x→rows[i]? =some row→∀ k,k<row.length→row.getD k 0≠0→nzF row k<x.rs.length
structure SgS where
 ex:Option Sg
 so:Option Sg
 many:Nat
 lost:Bool
def orS (a:Option Sg)(b:Sg):Option Sg:=match a with | none=>some b | some x=>some x
def zk7 (code:Int)(s:SgS)(c:Int)(y:Rd):SgS:=
 if (c==0)=true then s else if y.lost=true then {s with lost:=true} else
 ⟨if (s.ex.isNone&&c==code)=true then some y.sg else s.ex,orS s.so y.sg,s.many+1,s.lost⟩
def zum:Rd:=⟨false,zhL⟩
def ydF (ws:List Wr)(rows:List (List Int))(i k:Nat):Rd:=((ws[i]?).map (·.rs)).getD [] |>.getD (nzF (rows.getD i []) k) zum
def sgK (ws:List Wr)(rows:List (List Int))(k:Nat)(code:Int):Nat→SgS
 | 0=>⟨none,none,0,false⟩
 | i+1=>zk7 code (sgK ws rows k code i) ((rows.getD i []).getD k 0) (ydF ws rows i k)
inductive Out | err | skip | sg (x:Sg)
def XA (k:Nat)(code:Int)(y:Sg)(m:Bool):Sg:={Uo code with id:=(k:Int),bar:=y.bar,mark:=if m=true then 3 else y.mark,fn:=y.fn,fd:=y.fd,tn:=y.tn,td:=y.td}
def zbB (ws:List Wr)(rows:List (List Int))(k:Nat)(code:Int):Out:=
 if (code==0)=true then .skip else
 match (sgK ws rows k code rows.length).ex.or (sgK ws rows k code rows.length).so with
 | none=>.err
 | some y=>if (Jo code != 0)=true then .err else .sg (XA k code y ((decide ((ws.length:Int)>1)&&((sgK ws rows k code rows.length).many:Int)==1)&& !(sgK ws rows k code rows.length).lost))
def W0 (ws:List Wr)(rows:List (List Int))(rd:List Int):Nat→Option (List Sg)
 | 0=>some []
 | k+1=>match W0 ws rows rd k with
  | none=>none
  | some l=>match zbB ws rows k (rd.getD k 0) with
   | .err=>none
   | .skip=>some l
   | .sg x=>some (l++[x])
theorem zf2 {ws : List Wr} {rows : List (List Int)} {rd : List Int} {k : Nat} (h : W0 ws rows rd k = none) : ∀ j, k ≤ j → W0 ws rows rd j = none
  | 0, hj => by obtain rfl : k = 0 := by omega
                cases h
  | j + 1, hj => by
    by_cases e : k = j + 1
    · subst e; exact h
    · show (match W0 ws rows rd j with | none => none | some l => match zbB ws rows j (rd.getD j 0) with | .err => none | .skip => some l | .sg x => some (l ++ [x])) = none
      rw [zf2 h j (by omega)]
theorem ziO {ws:List Wr}{rows:List (List Int)}{rd:List Int}{k:Nat}{l:List Sg}(h:W0 ws rows rd k=some l)(ho:zbB ws rows k (rd.getD k 0)= .err)(hk:k<rd.length):W0 ws rows rd rd.length=none:=by
 refine zf2 (k:=k+1) ?_ _ hk
 show (match W0 ws rows rd k with | none=>none | some l=>match zbB ws rows k (rd.getD k 0) with | .err=>none | .skip=>some l | .sg x=>some (l++[x]))=none
 rw [h];simp only;rw [ho]
theorem znf {ws:List Wr}{rows:List (List Int)}{rd:List Int}{k:Nat}{l:List Sg}(h:W0 ws rows rd k=some l)(ho:zbB ws rows k (rd.getD k 0)= .skip):W0 ws rows rd (k+1)=some l:=by
 show (match W0 ws rows rd k with | none=>none | some l=>match zbB ws rows k (rd.getD k 0) with | .err=>none | .skip=>some l | .sg x=>some (l++[x]))=_
 rw [h];simp only;rw [ho]
theorem zuF {ws:List Wr}{rows:List (List Int)}{rd:List Int}{k:Nat}{l:List Sg}{x:Sg}(h:W0 ws rows rd k=some l)(ho:zbB ws rows k (rd.getD k 0)= .sg x):W0 ws rows rd (k+1)=some (l++[x]):=by
 show (match W0 ws rows rd k with | none=>none | some l=>match zbB ws rows k (rd.getD k 0) with | .err=>none | .skip=>some l | .sg x=>some (l++[x]))=_
 rw [h];simp only;rw [ho]
def KT (ws:List Wr)(rows:List (List Int))(no:Int)(cl:List Int)(es:List Em)(rd:List Int):Int:=
 if zaP ws≠0 then zaP ws else if Wu ws≠rows then 430 else if UA rows no cl es rd≠0 then UA rows no cl es rd else if (W0 ws rows rd rd.length).isNone=true then 430 else 0
def Jw (ws:List Wr)(rows:List (List Int))(no:Int)(cl:List Int)(es:List Em)(rd:List Int):List Sg:=
 if KT ws rows no cl es rd≠0 then [] else (W0 ws rows rd rd.length).getD []
theorem zj0 {ws:List Wr}{rows:List (List Int)}{no:Int}{cl:List Int}{es:List Em}{rd:List Int}(h:KT ws rows no cl es rd≠0):Jw ws rows no cl es rd=[]:=by unfold Jw;rw [if_pos h]
theorem zyH {ws:List Wr}{rows:List (List Int)}{no:Int}{cl:List Int}{es:List Em}{rd:List Int}(h:zaP ws≠0):KT ws rows no cl es rd=zaP ws:=by unfold KT;rw [if_pos h]
theorem zym {ws:List Wr}{rows:List (List Int)}{no:Int}{cl:List Int}{es:List Em}{rd:List Int}(h:zaP ws=0)(h2:Wu ws≠rows):KT ws rows no cl es rd=430:=by unfold KT;rw [if_neg (by omega),if_pos h2]
theorem zyb {ws:List Wr}{rows:List (List Int)}{no:Int}{cl:List Int}{es:List Em}{rd:List Int}(h:zaP ws=0)(h2:Wu ws=rows)(h3:UA rows no cl es rd≠0):KT ws rows no cl es rd=UA rows no cl es rd:=by unfold KT;rw [if_neg (by omega),if_neg (fun e=>e h2),if_pos h3]
theorem zvV {ws:List Wr}{rows:List (List Int)}{no:Int}{cl:List Int}{es:List Em}{rd:List Int}(h:zaP ws=0)(h2:Wu ws=rows)(h3:UA rows no cl es rd=0)(h4:W0 ws rows rd rd.length=none):KT ws rows no cl es rd=430:=by unfold KT;rw [if_neg (by omega),if_neg (fun e=>e h2),if_neg (by omega),h4];rfl
theorem zug {ws:List Wr}{rows:List (List Int)}{no:Int}{cl:List Int}{es:List Em}{rd:List Int}{l:List Sg}(h:zaP ws=0)(h2:Wu ws=rows)(h3:UA rows no cl es rd=0)(h4:W0 ws rows rd rd.length=some l):KT ws rows no cl es rd=0∧Jw ws rows no cl es rd=l:=by
 have e:KT ws rows no cl es rd=0:=by unfold KT;rw [if_neg (by omega),if_neg (fun e=>e h2),if_neg (by omega),h4];rfl
 exact ⟨e,by unfold Jw;rw [if_neg (by omega),h4];rfl⟩
theorem zrU {ws:List Wr}(_h:zaP ws=0):(Xw ws != 0||ws.length==0)=false∨Wu ws=[]:=by
 cases e:(Xw ws != 0||ws.length==0) with
 | false=>exact .inl rfl
 | true=>exact .inr (zsV e).2
end
section
open Go Go.Kn Go.Proofs
theorem zfA:Q3 Tryz.prog 26 0 0:=.of (by kernel_rfl)
theorem zbM:Q3 Tryz.prog 26 1 1:=.of (by kernel_rfl)
theorem XE:Q3 Tryz.prog 26 2 2:=.of (by kernel_rfl)
theorem zkL:Fun Tryz.prog 25:=.of Tryz.func25 (by kernel_rfl) (by kernel_rfl)
theorem zfM:ScT Tryz.prog 24:=.of (by kernel_rfl)
theorem zlo {I:Qw}{bv:Option Addr}{n2 c2:Nat}{rows:List (List Int)}(hVn:SlN I bv n2 c2 rows)(hn2:n2≤100000){ea1:Option Addr}{en1 ec1:Nat}{ea2:Option Addr}{en2 ec2:Nat}{ea3:Option Addr}{en3 ec3:Nat}{xs:List Int}{es:List Em}{rd:List Int}(hX1:Sl I 1 QP ea1 en1 ec1 xs)(hX2:Sl I 3 Yo ea2 en2 ec2 es)(hX3:Sl I 1 QP ea3 en3 ec3 rd)(hm1:en1≤100000)(hm2:en2≤100000)(hm3:en3≤100000)(no:Int)(hDb:V5 I):Zu Tryz.prog 30 [.slice bv n2 c2,.agg (ZT no ea1 en1 ec1 ea2 en2 ec2 ea3 en3 ec3).toArray] I (.int .i64 (UA rows no xs es rd)):=by
 intro g H w hw
 refine qe Tryz.func30 Tryz.ntmps30 hw ?_
 have hIc:=zAl I
 refine zR ?_
 refine Q9 rfl rfl rfl (fun b_3=>?_)
 refine zA ?_
 refine zN (zR ?_)
 refine zM ?_
 refine zF zfA ?_
 refine zL Qr ?_
 refine zF zbM ?_
 refine zL QJ ?_
 refine zF XE ?_
 refine zL zfM ?_
 refine QA (cap:=[]) (vs:=[_,_,_,_]) rfl rfl zkL .nil (zpT hX1 hVn hn2 hX2 hm2 hm1 hDb no) rfl rfl ?_
 rintro vv1 I1 L1 hI1 hMQ
 have hX3:=hX3.mono hI1;have hIc:=hIc.trans hI1
 obtain ⟨rfl,no2,cl2,es2,rd2,a1,q1,c1,a2,q2,c9,a3,q3,c3,rfl,hM1,hM2,hM3,hMy,hMn⟩:=hMQ.opn
 refine zM ?_
 refine zE ?_
 refine zE ?_
 refine Qv zdZ rfl rfl (fun b_5=>?_)
 refine zh Jb ?_
 refine zA (zN (Qk (zR ?_)))
 refine zM ?_
 refine zC (zN ?_)
 refine zI ?_ ?_<;>intro hc18
 ·
  have hE0:Uu rows no xs es≠0:=by have h:=hc18;simpa using h
  refine zR (zM ?_)
  refine zA (zN (Qs (Qb ?_)))
  first
  | exact zp hIc rfl rfl (by rw [zqe hE0]<;>rfl)
 have hE0:Uu rows no xs es=0:=by have h:=hc18;simpa using h
 obtain ⟨-, -, -,rfl⟩:=hMy hE0
 refine Qo (Qa (Qk (zR ?_)))
 refine zF Yg ?_
 refine zL QJ ?_
 refine zF Yg ?_
 refine zL QJ ?_
 refine qc (vs:=[_,_]) rfl zpy (zi6 hX3 hM3 hm3) ?_
 refine zO (zN ?_)
 refine zI ?_ ?_<;>intro hc25
 ·
  have hrd:rd≠Vr rows xs es:=fun e=>by have h:=hc25;rw [decide_eq_true e] at h;cases h
  refine zR (zA (zN (Qs (Qb ?_))))
  first
  | exact zp hIc rfl rfl (by rw [zwP hE0 hrd]<;>rfl)
 have hrd:rd=Vr rows xs es:=Decidable.byContradiction fun e=>by have h:=hc25;rw [decide_eq_false e] at h;cases h
 refine Qo (Qa (zR (zA (zN (Qs ?_)))))
 first
 | exact zp hIc rfl rfl (by rw [zmz hE0 hrd]<;>rfl)
end
section
open Go Go.Kn Go.Proofs
theorem zeK {ws:List Wr}:(Wu ws).length≤ws.length∧∀ x∈Wu ws,x.length≤256:=by
 unfold Wu
 split
 ·
  exact ⟨Nat.zero_le _,fun x hx=>by cases hx⟩
 ·
  rename_i h
  refine ⟨by simp,fun x hx=>?_⟩
  obtain ⟨i,_,rfl⟩:=List.mem_map.1 hx
  unfold zqA
  rw [Yb]
  exact Nat.le_of_not_gt fun h2=>h (.inr h2)
theorem zgd {ws:List Wr}{rows:List (List Int)}(h:Wu ws=rows)(h0:0<rows.length):rows.length=ws.length:=by
 subst h
 unfold Wu at h0 ⊢
 split
 ·
  rename_i h;rw [if_pos h] at h0;simp at h0
 ·
  simp
theorem zyR {row:List Int}{k:Nat}:nzF row k≤k:=by
 unfold nzF
 have h1:=List.length_filter_le (fun c:Int=>c != 0) (row.take k)
 have h2:=List.length_take_le k row
 omega
theorem znJ (xs:List Sg):YD (xs.flatMap Vy)=true:=Yv (fun _=>rfl) xs
/-! ### What has been passed -/
def atN (rows:List (List Int))(k i:Nat):Nat→Nat:=fun j=>if j<i then nzF (rows.getD j []) (k+1) else nzF (rows.getD j []) k
theorem zgN {rows:List (List Int)}{k i:Nat}:YN (atN rows k i) i=((nzF (rows.getD i []) k:Nat):Int):=by unfold YN atN;rw [if_neg (by omega)]
theorem zn1 {rows:List (List Int)}:(fun _=>0)=atN rows 0 0:=by funext j;unfold atN;rw [if_neg (by omega)];rfl
theorem zqu {rows:List (List Int)}{k i:Nat}{v:Nat}(h:nzF (rows.getD i []) (k+1)=v):US (atN rows k i) i v=atN rows k (i+1):=by
 funext j
 by_cases e:j=i
 ·
  subst e;rw [KR];unfold atN;rw [if_pos (by omega),h]
 ·
  rw [zaN e];unfold atN
  by_cases h2:j<i
  ·
   rw [if_pos h2,if_pos (by omega)]
  ·
   rw [if_neg h2,if_neg (by omega)]
theorem zxh {rows:List (List Int)}{k i:Nat}(h:nzF (rows.getD i []) (k+1)=nzF (rows.getD i []) k):atN rows k i=atN rows k (i+1):=by
 funext j
 unfold atN
 by_cases e:j=i
 ·
  subst e;rw [if_neg (by omega),if_pos (by omega),h]
 ·
  by_cases h2:j<i
  ·
   rw [if_pos h2,if_pos (by omega)]
  ·
   rw [if_neg h2,if_neg (by omega)]
theorem zlP {rows:List (List Int)}{k n:Nat}:VD n (YN (atN rows k n))=VD n (YN (atN rows (k+1) 0)):=by
 unfold VD
 refine List.map_congr_left fun j hj=>?_
 unfold YN atN
 rw [if_pos (List.mem_range.1 hj),if_neg (by omega)]
/-! ### The steps -/
theorem zrE {ws:List Wr}{rows:List (List Int)}{k i:Nat}{code:Int}(h:((rows.getD i []).getD k 0==0)=true):sgK ws rows k code i=sgK ws rows k code (i+1):=by
 show _=zk7 code (sgK ws rows k code i) ((rows.getD i []).getD k 0) (ydF ws rows i k)
 unfold zk7;rw [if_pos h]
theorem ztW {ws:List Wr}{rows:List (List Int)}{k i:Nat}{code:Int}{s:SgS}(hs:s=sgK ws rows k code i)(h:((rows.getD i []).getD k 0==0)=false)(hl:(ydF ws rows i k).lost=true):{s with lost:=true}=sgK ws rows k code (i+1):=by
 show _=zk7 code (sgK ws rows k code i) ((rows.getD i []).getD k 0) (ydF ws rows i k)
 unfold zk7;rw [if_neg (by rw [h];decide),if_pos hl,hs]
theorem zwi {ws:List Wr}{rows:List (List Int)}{k i:Nat}{code:Int}{s:SgS}{y:Rd}(hs:s=sgK ws rows k code i)(h:((rows.getD i []).getD k 0==0)=false)(hy:ydF ws rows i k=y)(hl:y.lost=false)(he:(s.ex.isNone&&(rows.getD i []).getD k 0==code)=true):
  (⟨some y.sg,orS s.so y.sg,s.many+1,s.lost⟩:SgS)=sgK ws rows k code (i+1):=by
 show _=zk7 code (sgK ws rows k code i) ((rows.getD i []).getD k 0) (ydF ws rows i k)
 unfold zk7;rw [if_neg (by rw [h];decide),hy,if_neg (by rw [hl];decide),←hs,if_pos he]
theorem zyr {ws:List Wr}{rows:List (List Int)}{k i:Nat}{code:Int}{s:SgS}{y:Rd}(hs:s=sgK ws rows k code i)(h:((rows.getD i []).getD k 0==0)=false)(hy:ydF ws rows i k=y)(hl:y.lost=false)(he:(s.ex.isNone&&(rows.getD i []).getD k 0==code)=false):
  (⟨s.ex,orS s.so y.sg,s.many+1,s.lost⟩:SgS)=sgK ws rows k code (i+1):=by
 show _=zk7 code (sgK ws rows k code i) ((rows.getD i []).getD k 0) (ydF ws rows i k)
 unfold zk7;rw [if_neg (by rw [h];decide),hy,if_neg (by rw [hl];decide),←hs,if_neg (by rw [he];decide)]
theorem ziT {ws:List Wr}{rows:List (List Int)}{k:Nat}{code:Int}:∀ i,(sgK ws rows k code i).many≤i
 | 0=>Nat.le_refl _
 | i+1=>by
  have ih:=ziT (ws:=ws) (rows:=rows) (k:=k) (code:=code) i
  show (zk7 code (sgK ws rows k code i) ((rows.getD i []).getD k 0) (ydF ws rows i k)).many≤i+1
  unfold zk7
  split
  ·
   omega
  ·
   split
   ·
    show (sgK ws rows k code i).many≤i+1;omega
   ·
    show (sgK ws rows k code i).many+1≤i+1;omega
theorem zmK {ws:List Wr}{rows:List (List Int)}{k:Nat}{code:Int}(h:(code==0)=true):zbB ws rows k code= .skip:=by unfold zbB;rw [if_pos h]
theorem zof {ws:List Wr}{rows:List (List Int)}{k:Nat}{code:Int}{s:SgS}(h:(code==0)=false)(hs:s=sgK ws rows k code rows.length)(hn:s.ex.or s.so=none):zbB ws rows k code= .err:=by
 subst hs;unfold zbB;rw [if_neg (by rw [h];decide),hn]
theorem zsC {ws:List Wr}{rows:List (List Int)}{k:Nat}{code:Int}{s:SgS}{y:Sg}(h:(code==0)=false)(hs:s=sgK ws rows k code rows.length)(hn:s.ex.or s.so=some y)(he:(Jo code != 0)=true):zbB ws rows k code= .err:=by
 subst hs;unfold zbB;rw [if_neg (by rw [h];decide),hn];simp only;rw [if_pos he]
theorem zuY {ws:List Wr}{rows:List (List Int)}{k:Nat}{code:Int}{s:SgS}{y:Sg}(h:(code==0)=false)(hs:s=sgK ws rows k code rows.length)(hn:s.ex.or s.so=some y)(he:(Jo code != 0)=false):
  zbB ws rows k code= .sg (XA k code y ((decide ((ws.length:Int)>1)&&(s.many:Int)==1)&& !s.lost)):=by
 subst hs;unfold zbB;rw [if_neg (by rw [h];decide),hn];simp only;rw [if_neg (by rw [he];decide)]
theorem zt7 {ws:List Wr}{rows:List (List Int)}{i k:Nat}{x:Wr}{y:Rd}(hx:ws[i]? =some x)(hy:x.rs[nzF (rows.getD i []) k]? =some y):ydF ws rows i k=y:=by
 unfold ydF;rw [hx];exact QN hy
theorem Cells.two {I:Qw}{b t off:Nat}{vs:List Value}{u u':Value}{fz:Nat×Nat}{l:Go.Kn.Loc}(h:I b=some (.cells vs.toArray t fz))(h0:vs[off]? =some u)(h1:vs[off+1]? =some u'):Cells I l b off [u,u']:=fun j v hj=>by
 rcases j with _ | _ | j
 ·
  cases hj;exact .imm h (by rw [Vb];simpa using h0)
 ·
  cases hj;exact .imm h (by rw [Vb];simpa using h1)
 ·
  simp at hj
def Vj (t:Nat)(I:Qw)(p:Option Addr)(s:Option Sg):Prop:=match s with
 | none=>p=none
 | some x=>∃ b l,p=some ⟨b,1,none⟩∧I b=some (.cells (Wa ⟨l,x⟩).toArray t (0,0))
theorem Vj.mono {t:Nat}{I I':Qw}{p:Option Addr}{s:Option Sg}(h:Vj t I p s)(hI:HLe I I'):Vj t I' p s:=by
 cases s with
 | none=>exact h
 | some x=>obtain ⟨b,l,h1,h2⟩:=h;exact ⟨b,l,h1,hI _ _ h2⟩
theorem Vj.isNone {t:Nat}{I:Qw}{p:Option Addr}{s:Option Sg}(h:Vj t I p s):p.isNone=s.isNone:=by
 cases s with
 | none=>have h:p=none:=h;subst h;rfl
 | some x=>obtain ⟨b,l,rfl,h2⟩:=h;rfl
theorem Vj.new {t:Nat}{I:Qw}{b:Nat}{y:Rd}(h:I b=some (.cells (Wa y).toArray t (0,0))):Vj t I (some ⟨b,0+1,none⟩) (some y.sg):=⟨b,y.lost,rfl,h⟩
theorem Vj.orN {t:Nat}{I:Qw}{p q:Option Addr}{s:Option Sg}{y:Sg}(h:Vj t I p s)(hp:p.isNone=true)(hq:Vj t I q (some y)):Vj t I q (orS s y):=by
 have:=h.isNone
 rw [hp] at this
 cases s with
 | none=>exact hq
 | some x=>cases this
theorem Vj.orS {t:Nat}{I:Qw}{p:Option Addr}{s:Option Sg}{y:Sg}(h:Vj t I p s)(hp:p.isNone=false):Vj t I p (orS s y):=by
 have:=h.isNone
 rw [hp] at this
 cases s with
 | none=>cases this
 | some x=>exact h
theorem Vj.orY {t:Nat}{I:Qw}{p q:Option Addr}{s u:Option Sg}(h:Vj t I p s)(hp:p.isNone=true)(hq:Vj t I q u):Vj t I q (s.or u):=by
 have:=h.isNone
 rw [hp] at this
 cases s with
 | none=>exact hq
 | some x=>cases this
theorem Vj.orX {t:Nat}{I:Qw}{p:Option Addr}{s u:Option Sg}(h:Vj t I p s)(hp:p.isNone=false):Vj t I p (s.or u):=by
 have:=h.isNone
 rw [hp] at this
 cases s with
 | none=>cases this
 | some x=>exact h
theorem Vj.at {t:Nat}{I:Qw}{p:Option Addr}{s:Option Sg}(h:Vj t I p s)(hp:p.isNone=false):∃ x b l,s=some x∧p=some ⟨b,1,none⟩∧I b=some (.cells (Wa ⟨l,x⟩).toArray t (0,0)):=by
 have:=h.isNone
 rw [hp] at this
 cases s with
 | none=>cases this
 | some x=>obtain ⟨b,l,h1,h2⟩:=h;exact ⟨x,b,l,rfl,h1,h2⟩
theorem Vj.none {t:Nat}{I:Qw}{p:Option Addr}{s:Option Sg}(h:Vj t I p s)(hp:p.isNone=true):s=Option.none:=by
 have:=h.isNone
 rw [hp] at this
 cases s with
 | none=>rfl
 | some x=>cases this
end
section
open Go Go.Kn Go.Proofs
theorem zok:Fun Tryz.prog 27:=.of Tryz.func27 (by kernel_rfl) (by kernel_rfl)
theorem zoB:Fun Tryz.prog 30:=.of Tryz.func30 (by kernel_rfl) (by kernel_rfl)
theorem zwl:Fun Tryz.prog 82:=.of Tryz.func82 (by kernel_rfl) (by kernel_rfl)
theorem zbh:SzT Tryz.prog 52 2:=.of (by kernel_rfl)
theorem zbt:Tryz.prog.underlying 155=some (.pointer 54):=by kernel_rfl
def zpi (ws:List Wr)(rows:List (List Int))(no:Int)(cl:List Int)(es:List Em)(rd:List Int):Value→Qw→Go.Kn.Loc→Prop:=fun v I' L=>L=[]∧∃ av c,v= .tuple #[.slice av (Jw ws rows no cl es rd).length c,.int .i64 (KT ws rows no cl es rd)]∧Sl I' 14 Vy av (Jw ws rows no cl es rd).length c (Jw ws rows no cl es rd)
theorem zpi.bad {ws:List Wr}{rows:List (List Int)}{no:Int}{cl:List Int}{es:List Em}{rd:List Int}{I':Qw}{e:Int}(h:KT ws rows no cl es rd=e)(he:e≠0):zpi ws rows no cl es rd (.tuple #[.slice none 0 0,.int .i64 e]) I' []:=by
 have h0:=zj0 (show KT ws rows no cl es rd≠0 by rw [h];exact he)
 exact ⟨rfl,none,0,by rw [h0,h];rfl,by rw [h0];exact .nil⟩
set_option maxHeartbeats 40000000 in
theorem w_Signs {I:Qw} {av:Option Addr} {n c:Nat} {ws:List Wr} (hW0:SlW I av n c ws) (hn:n≤100000) {bv:Option Addr} {n2 c2:Nat} {rows:List (List Int)} (hVn:SlN I bv n2 c2 rows) (hn2:n2≤100000) {ea1:Option Addr} {en1 ec1:Nat} {ea2:Option Addr} {en2 ec2:Nat} {ea3:Option Addr} {en3 ec3:Nat} {xs:List Int} {es:List Em} {rd:List Int} (hX1:Sl I 1 QP ea1 en1 ec1 xs) (hX2:Sl I 3 Yo ea2 en2 ec2 es) (hX3:Sl I 1 QP ea3 en3 ec3 rd) (hm1:en1≤100000) (hm2:en2≤100000) (hm3:en3≤100000) (no:Int) (hDb:V5 I) (hnz:Wu ws=rows→zyE ws rows):Z4 Tryz.prog 44 [.slice av n c,.slice bv n2 c2,.agg (ZT no ea1 en1 ec1 ea2 en2 ec2 ea3 en3 ec3).toArray] I [] (zpi ws rows no xs es rd):=by
 intro g H w hw
 refine qe Tryz.func44 Tryz.ntmps44 hw ?_
 have hIc:=zAl I
 obtain ⟨hds,hW⟩:=id hW0
 have hH:=hW.1
 have hlW:=hW.len
 subst hlW
 have hlV:=hVn.len
 subst hlV
 have hlX3:=hX3.len
 subst hlX3
 refine zR ?_
 refine Q9 rfl rfl rfl (fun b_5=>?_)
 refine zA ?_
 refine zA (zN ?_)
 refine zqv ?_
 refine zR (zM ?_)
 refine QA (cap:=[]) (vs:=[_]) rfl rfl zok .nil (ziF hW0 hn) rfl rfl ?_
 rintro vv1 I1 L1 hI1 ⟨rfl,av8,c8,rfl,hTb⟩
 have hW:=hW.mono hI1;have hH:=hH.mono hI1;have hVn:=hVn.mono hI1;have hX1:=hX1.mono hI1;have hX2:=hX2.mono hI1;have hX3:=hX3.mono hI1;have hDb:=hDb.mono hI1;have hIc:=hIc.trans hI1
 refine zM ?_
 refine zE ?_
 refine zE ?_
 refine zA ?_
 refine zA (zN (Qk (zR ?_)))
 refine zM ?_
 refine zC (zN ?_)
 refine zI ?_ ?_<;>intro hc28
 ·
  have hcT:zaP ws≠0:=by have h:=hc28;simpa using h
  refine zR (zM ?_)
  refine zA ?_
  refine zA (zN (Qs (Qb ?_)))
  refine Jz ?_
  exact Zr rfl rfl rfl (fun w hw=>⟨_,_,[],rfl,hIc,hw.drop,zpi.bad (zyH hcT) hcT⟩)
 have hcT:zaP ws=0:=by have h:=hc28;simpa using h
 refine Qo (Qa (Qk (zR (zM ?_))))
 refine zM ?_
 refine qc (vs:=[_,_,_]) rfl zwl (zmb hTb hVn (by have:=(zeK (ws:=ws)).1;omega) (fun x hx=>Nat.le_trans (zeK.2 x hx) (by decide))) ?_
 refine zO (zN ?_)
 refine zI ?_ ?_<;>intro hc33
 ·
  have hne:Wu ws≠rows:=fun e=>by have h:=hc33;rw [decide_eq_true e] at h;cases h
  refine zR (zA ?_)
  refine zA (zN (Qs (Qb ?_)))
  refine Jz ?_
  exact Zr rfl rfl rfl (fun w hw=>⟨_,_,[],rfl,hIc,hw.drop,zpi.bad (zym hcT hne) (by decide)⟩)
 have heq:Wu ws=rows:=Decidable.byContradiction fun e=>by have h:=hc33;rw [decide_eq_false e] at h;cases h
 refine Qo (Qa (Qk (zR (zM ?_))))
 refine zV (Qq rfl ZW (fun hg=>by exact Cells.g0) rfl) ?_
 refine qc (vs:=[_,_]) rfl zoB (zlo hVn hn2 hX1 hX2 hX3 hm1 hm2 hm3 no hDb) ?_
 refine zA ?_
 refine zN (zR ?_)
 refine zM ?_
 refine zC (zN ?_)
 refine zI ?_ ?_<;>intro hc38
 ·
  have hcE:UA rows no xs es rd≠0:=by have h:=hc38;simpa using h
  refine zR (zM ?_)
  refine zA ?_
  refine zA (zN (Qs (Qb ?_)))
  refine Jz ?_
  exact Zr rfl rfl rfl (fun w hw=>⟨_,_,[],rfl,hIc,hw.drop,zpi.bad (zyb hcT heq hcE) hcE⟩)
 have hcE:UA rows no xs es rd=0:=by have h:=hc38;simpa using h
 obtain ⟨hm0,hrd⟩:=zfs hcE
 have hco:=zjI hm0
 obtain ⟨hr1,hr6,hr64,hrr⟩:=JE (KS hco)
 have hlen:=zgd heq (by omega)
 have hrdl:rd.length=(rows.getD 0 []).length:=by rw [hrd];exact Wz
 have hnz:=hnz heq
 obtain ⟨vhs,hV⟩:=id hVn
 have hVh:=hV.1
 refine Qo (Qa (Qk ?_))
 refine Zn (b:=b_5) (by repeat (first | exact Zc.here | apply Zc.there)) (fun I2 hI2 hb2=>?_)
 have hW:=hW.mono hI2;have hH:=hH.mono hI2;have hX3:=hX3.mono hI2;have hV:=hV.mono hI2;have hVh:=hVh.mono hI2;have hIc:=hIc.trans hI2
 have hC5:QY I2 [] b_5 3 (.slice ea3 rd.length ec3):=.imm hb2 rfl
 refine Qf (zM ?_)
 refine zQ VI ?_
 refine Q4 YC rfl rfl (by omega) (by decide) rfl rfl (fun b_42=>?_)
 refine zA (Qc ?_)
 rw [show ((ws.length:Nat):Int).toNat=ws.length from rfl,Q7,Zl,Wn,zn1 (rows:=rows)]
 refine Qa (Qk ?_)
 refine ztd ?_
 refine Qa (Qk (Qk ?_))
 refine JK (loc':=[]++[(b_42,.cells (Zk (VD ws.length (YN (atN rows 0 0)))) 3 (0,0))]) rfl ?_
 refine Qf ?_
 refine zF Yg ?_
 refine zV (Qd rfl QJ (fun hg=>by exact hC5.any)) ?_
 refine zQ Qt ?_
 refine zM (zN (Ql ?_))
 refine zU [(0,_),(1,_),(10,_),(44,_),(45,_)] (fun T L0 mz E I' loc'=>∃ (k:Nat) (l:List Sg) (v6:Value) (L:Go.Kn.Loc),mz=rd.length-k∧E=(6,v6)::(46,.int .i64 k)::T∧HLe I2 I'∧L++[(b_42,.cells (Zk (VD ws.length (YN (atN rows k 0)))) 3 (0,0))]=loc'∧k≤rd.length∧W0 ws rows rd k=some l∧OwnS 54 14 v6 l.length (l.flatMap Vy) L∧l.length≤k) ?_ (h:=⟨0,[],_,[],rfl,rfl,zAl _,rfl,Nat.zero_le _,rfl,OwnS.nil,Nat.le_refl _⟩)
 rintro mz E J3 loc' ⟨k,l,v6,L,rfl,rfl,hJ,rfl,hk,hsg,hO,hlk⟩
 have hW:=hW.mono hJ;have hH:=hH.mono hJ;have hX3:=hX3.mono hJ;have hV:=hV.mono hJ;have hVh:=hVh.mono hJ;have hIc:=hIc.trans hJ
 have hB0:=hJ
 refine zR (zC (zN (Qk ?_)))
 refine zI ?_ ?_<;>intro hc47
 ·
  have hlt_k:k<rd.length:=by have h:=hc47;simp at h;omega
  obtain ⟨code,hk⟩:=hX3.at hlt_k
  refine Qo (Qa (Qk (Ql (zR (zM ?_)))))
  refine zV (zX Qt hX3) ?_
  refine zV (Qd rfl Qr (fun hg=>by exact zAe hX3 hk rfl)) ?_
  refine zA ?_
  refine zA ?_
  refine zN (zR ?_)
  refine zA ?_
  refine zA ?_
  refine zN (zR ?_)
  refine zA ?_
  refine zA (zN (Qk (zR ?_)))
  refine zM ?_
  refine zQ Q0 ?_
  refine zM (zN (Ql ?_))
  refine zU [(0,_),(1,_),(6,_),(10,_),(11,_),(12,_),(44,_),(45,_),(46,_),(51,_),(52,_)] (fun T L0 mz E I' loc'=>∃ (i:Nat) (s:SgS) (p13:Option Addr) (p14:Option Addr),mz=rows.length-i∧E=(13,.pointer p13)::(14,.pointer p14)::(15,.int .i64 ((s.many:Nat):Int))::(16,.bool s.lost)::(53,.int .i64 i)::T∧HLe J3 I'∧L++[(b_42,.cells (Zk (VD ws.length (YN (atN rows k i)))) 3 (0,0))]=loc'∧i≤rows.length∧s=sgK ws rows k code i∧Vj 60 I' p13 s.ex∧Vj 60 I' p14 s.so) ?_ (h:=⟨0,⟨none,none,0,false⟩,none,none,rfl,rfl,zAl _,rfl,Nat.zero_le _,rfl,rfl,rfl⟩)
  rintro mz E J4 loc' ⟨i,s,p13,p14,rfl,rfl,hJ,rfl,hi,hs,hp13,hp14⟩
  have hW:=hW.mono hJ;have hH:=hH.mono hJ;have hV:=hV.mono hJ;have hVh:=hVh.mono hJ;have hIc:=hIc.trans hJ;have hB0:=hB0.trans hJ
  have hB2:=hJ
  refine zR (zC (zN (Qk ?_)))
  refine zI ?_ ?_<;>intro hc54
  ·
   have hlt_i:i<rows.length:=by have h:=hc54;simp at h;omega
   obtain ⟨vx,row,hvx,hvr,hQ⟩:=hV.at hlt_i
   obtain ⟨wx,xw,hwx,hxw,e1,e2,hR⟩:=hW.at (show i<ws.length by omega)
   have hrl:=(hrr row (List.mem_of_getElem? hvr)).1
   have hQl:=hQ.len
   have hRl:=hR.len
   have hrk:row[k]? =some (row.getD k 0):=QX rfl (by omega)
   have hrk0:=hrk
   have hrg2:rows.getD i []=row:=QN hvr
   have hrg:(rows.getD i []).getD k 0=row.getD k 0:=by rw [hrg2]
   have hnzk:=zyR (row:=rows.getD i []) (k:=k)
   have hms:=ziT (ws:=ws) (rows:=rows) (k:=k) (code:=code) i
   rw [←hs] at hms
   refine Qo (Qa (Qk (Ql (zR (zM ?_)))))
   refine zV (zX Q0 hVh) ?_
   refine zV (Qd rfl QJ (fun hg=>by exact zAe hVh hvx rfl)) ?_
   refine zA ?_
   refine zA (zN (Qk (zR ?_)))
   refine zM ?_
   refine zM ?_
   refine zV (zX Qt hQ) ?_
   refine zV (Qd rfl Qr (fun hg=>by exact zAe hQ hrk0 rfl)) ?_
   refine zC (zN ?_)
   refine zI ?_ ?_<;>intro hc62
   ·
    have hc62:(row.getD k 0==0)=true:=hc62
    refine JK (loc':=L++[(b_42,.cells (Zk (VD ws.length (YN (atN rows k (i+1))))) 3 (0,0))]) (by rw [zxh (by rw [hrg2];exact zpw hrk hc62)]) ?_
    refine QH (Qe (Qj (Qa (Qf (zB ?_)))))
    refine zM (Qc ?_)
    first
    | exact zm (h:=⟨rows.length-(i+1),by omega,i+1,s,p13,p14,rfl,rfl,hB2,rfl,by omega,by rw [hs];exact zrE (by rw [hrg];exact hc62),hp13,hp14⟩)
   have hc62:(row.getD k 0==0)=false:=hc62
   have hnzi:=hnz i xw row hxw hvr k (by omega) (by have h:=hc62;simpa using h)
   obtain ⟨y,hy⟩:∃ y,xw.rs[nzF (rows.getD i []) k]? =some y:=⟨_,List.getElem?_eq_getElem (by rw [hrg2];exact hnzi)⟩
   have hyd:ydF ws rows i k=y:=zt7 hxw hy
   have hnzi2:nzF (rows.getD i []) k<xw.rs.length:=by rw [hrg2];exact hnzi
   refine Qo (Qa (Qk ?_))
   have hD:=zAl J4
   refine K5 mixed ?_
   refine zT 0 rfl (Qh rfl) hD ?_
   refine zT 1 rfl (Qh rfl) hD ?_
   refine zT 2 rfl (zX VI hH) hD ?_
   refine zT 3 rfl (Qi rfl Wp) hD ?_
   refine zT 4 rfl (Qd rfl zdA (fun hg=>by exact zAn hH hwx rfl)) hD ?_
   refine zT 5 rfl (Qh rfl) hD ?_
   refine zT 6 rfl (Qh rfl) hD ?_
   refine zT 7 rfl (Q6 rfl rfl Qt (fun hg=>by omega)) hD ?_
   refine zT 8 rfl (Qd rfl Qr (fun hg=>by exact zAh (Jn (k:=i) (YH (show i<_ by omega))))) hD ?_
   rw [zgN]
   refine zT 9 rfl (zX zaf hR) hD ?_
   refine zT 10 rfl (Qq rfl zgk (fun hg=>by exact zAm hR hy) rfl) hD ?_
   refine qd 11 rfl ?_
   refine Qv zmc rfl rfl (fun b_19=>?_)
   refine Qc ?_
   refine zD hD ?_
   refine qd 12 rfl ?_
   refine zh zf5 ?_
   refine Qc ?_
   refine zD hD ?_
   refine QK (by kernel_rfl) ?_
   refine QW ?_
   refine Qa (zR (zM ?_))
   refine zM ?_
   refine zV (Q6 rfl rfl Qt (fun hg=>by omega)) ?_
   refine zV (Qd rfl Qr (fun hg=>by exact zAf (zAh (Jn (k:=i) (YH (show i<_ by omega)))))) ?_
   rw [zgN]
   refine zB ?_
   refine zV (Q6 rfl rfl Qt (fun hg=>by omega)) ?_
   refine ZE rfl rfl Yd rfl rfl (by (repeat (first | exact Upd.here | apply Upd.there | apply QM))) (zvN (by rw [Yb];omega)) ?_
   refine Qc ?_
   rw [YQ,JU,show ((nzF (rows.getD i []) k:Nat):Int)+1=((nzF (rows.getD i []) k+1:Nat):Int) from rfl,zaj,zqu (by rw [hrg2];exact zis hrk hc62)]
   refine Qa (Qk (Qk ?_))
   refine Zn (b:=b_19) (by repeat (first | exact Zc.here | apply Zc.there)) (fun I5 hI5 hb19=>?_)
   have hp13:=hp13.mono hI5;have hp14:=hp14.mono hI5;have hQ:=hQ.mono hI5;have hB2:=hB2.trans hI5
   have hp19:=Vj.new hb19
   refine Qf ?_
   refine zF Jj ?_
   refine zV (Qd rfl zb4 (fun hg=>by exact .imm hb19 rfl)) ?_
   refine zN ?_
   refine zI ?_ ?_<;>intro hc81
   ·
    refine zR (zA (zN (QH (Qe (Qj (Qa (Qf ?_)))))))
    refine zB ?_
    refine zM (Qc ?_)
    first
    | exact zm (h:=⟨rows.length-(i+1),by omega,i+1,{s with lost:=true},p13,p14,rfl,rfl,hB2,rfl,by omega,ztW hs (by rw [hrg];exact hc62) (by rw [hyd];exact hc81),hp13,hp14⟩)
   refine Qo (Qa (zR (zM ?_)))
   refine zB ?_
   refine zA (zN ?_)
   refine zY [(0,_),(1,_),(6,_),(10,_),(11,_),(12,_),(13,_),(15,_),(16,_),(18,_),(19,_),(44,_),(45,_),(46,_),(51,_),(52,_),(53,_)] (fun T L0 E I' loc'=>∃ (q14:Option Addr),E=(14,.pointer q14)::T∧HLe I5 I'∧L++[(b_42,.cells (Zk (VD ws.length (YN (atN rows k (i+1))))) 3 (0,0))]=loc'∧Vj 60 I' q14 (orS s.so y.sg)) ?_ ?_
   ·
    have hKc24:=zAl I5
    refine zR (zM ?_)
    refine zV (UV rfl rfl zbt) ?_
    refine zN ?_
    refine zI ?_ ?_<;>intro hc85
    ·
     refine Qf ?_
     refine zF JR ?_
     refine zA (Qc ?_)
     exact VQ _ _ ⟨_,rfl,hKc24,rfl,hp14.orN hc85 hp19⟩ (.cons rfl (.cons rfl (.cons rfl (.cons rfl (.cons rfl (.cons rfl (.cons rfl (.cons rfl (.cons rfl (.cons rfl (.cons rfl (.cons rfl (.cons rfl (.cons rfl (.cons rfl (.cons rfl (.cons rfl (.cons rfl .nil)))))))))))))))))) .refl
    refine Qo ?_
    exact VQ _ _ ⟨_,rfl,hKc24,rfl,hp14.orS hc85⟩ (.cons rfl (.cons rfl (.cons rfl (.cons rfl (.cons rfl (.cons rfl (.cons rfl (.cons rfl (.cons rfl (.cons rfl (.cons rfl (.cons rfl (.cons rfl (.cons rfl (.cons rfl (.cons rfl (.cons rfl (.cons rfl .nil)))))))))))))))))) .refl
   rintro E J6 loc' ⟨q14,rfl,hJ85,rfl,hq14⟩
   have hp13:=hp13.mono hJ85;have hQ:=hQ.mono hJ85;have hp19:=hp19.mono hJ85;have hB2:=hB2.trans hJ85
   refine zR (zM ?_)
   refine zV (UV rfl rfl zbt) ?_
   refine zM ?_
   refine QG 2 rfl rfl rfl ?_
   refine zK (Qh rfl) ?_
   refine zK (Qh rfl) ?_
   refine zK (zX Qt hQ) ?_
   refine zK (Qd rfl Qr (fun hg=>by exact zAe hQ hrk0 rfl)) ?_
   refine zK (Qh rfl) ?_
   refine zK (QI rfl rfl rfl) ?_
   refine QL rfl rfl rfl rfl rfl ?_
   refine zN ?_
   refine zI ?_ ?_<;>intro hc96
   ·
    refine Qf ?_
    refine zF JR ?_
    refine zA (Qc (Qg (Qa (Qf ?_))))
    refine zB ?_
    refine zM (Qc ?_)
    first
    | exact zm (h:=⟨rows.length-(i+1),by omega,i+1,⟨some y.sg,orS s.so y.sg,s.many+1,s.lost⟩,_,q14,rfl,rfl,hB2,rfl,by omega,zwi hs (by rw [hrg];exact hc62) hyd hc81 (by rw [hrg,←hp13.isNone];exact hc96),hp19,hq14⟩)
   refine Qo (Qg (Qa (Qf (zB ?_))))
   refine zM (Qc ?_)
   first
   | exact zm (h:=⟨rows.length-(i+1),by omega,i+1,⟨s.ex,orS s.so y.sg,s.many+1,s.lost⟩,p13,q14,rfl,rfl,hB2,rfl,by omega,zyr hs (by rw [hrg];exact hc62) hyd hc81 (by rw [hrg,←hp13.isNone];exact hc96),hp13,hq14⟩)
  have hge_i:rows.length≤i:=by have h:=hc54;simp at h;omega
  obtain rfl:i=rows.length:=by omega
  refine QH (Qe (Qe (Qj (Qa (Qk (Qk ?_))))))
  refine JK (loc':=L++[(b_42,.cells (Zk (VD ws.length (YN (atN rows (k+1) 0)))) 3 (0,0))]) (by rw [hlen,zlP]) ?_
  refine Qf (zM ?_)
  refine zC (zN ?_)
  refine zI ?_ ?_<;>intro hc100
  ·
   refine QH (Qe (Qj (Qa (Qf (zB ?_)))))
   refine zM (Qc ?_)
   first
   | exact zm (h:=⟨rd.length-(k+1),by omega,k+1,_,_,_,rfl,rfl,hB0,rfl,by omega,znf hsg (by rw [QN hk];exact zmK hc100),hO,by omega⟩)
  refine Qo (Qa ?_)
  refine zY [(0,_),(1,_),(6,_),(10,_),(11,_),(12,_),(15,_),(16,_),(44,_),(45,_),(46,_)] (fun T L0 E I' loc'=>∃ (q13:Option Addr),E=(13,.pointer q13)::T∧HLe J4 I'∧L++[(b_42,.cells (Zk (VD ws.length (YN (atN rows (k+1) 0)))) 3 (0,0))]=loc'∧Vj 60 I' q13 (s.ex.or s.so)) ?_ ?_
  ·
   have hKc30:=zAl J4
   refine zR (zM ?_)
   refine zV (UV rfl rfl zbt) ?_
   refine zN ?_
   refine zI ?_ ?_<;>intro hc102
   ·
    refine Qf (zM ?_)
    refine zA (Qc ?_)
    exact VQ _ _ ⟨_,rfl,hKc30,rfl,hp13.orY hc102 hp14⟩ (.cons rfl (.cons rfl (.cons rfl (.cons rfl (.cons rfl (.cons rfl (.cons rfl (.cons rfl (.cons rfl (.cons rfl (.cons rfl (.cons rfl .nil)))))))))))) .refl
   refine Qo ?_
   exact VQ _ _ ⟨_,rfl,hKc30,rfl,hp13.orX hc102⟩ (.cons rfl (.cons rfl (.cons rfl (.cons rfl (.cons rfl (.cons rfl (.cons rfl (.cons rfl (.cons rfl (.cons rfl (.cons rfl (.cons rfl .nil)))))))))))) .refl
  rintro E J7 loc' ⟨q13,rfl,hJ102,rfl,hq13⟩
  have hIc:=hIc.trans hJ102;have hB0:=hB0.trans hJ102
  refine Qk (zR (zM ?_))
  refine zV (UV rfl rfl zbt) ?_
  refine zN ?_
  refine zI ?_ ?_<;>intro hc105
  ·
   have hso:=hq13.none hc105
   refine zR (zA ?_)
   refine zA (zN (Qs (Qb (Qm (Qb (Qb (Qm ?_)))))))
   refine Qb ?_
   refine Jz ?_
   first
   | exact Zr rfl rfl rfl (fun w hw=>⟨_,_,[],rfl,hIc,hw.drop,zpi.bad (zvV hcT heq hcE (ziO hsg (by rw [QN hk];exact zof hc100 hs hso) hlt_k)) (by decide)⟩)
  obtain ⟨sy,spb,spl,hso,rfl,hsp⟩:=hq13.at hc105
  refine Qo (Qa (zR (zM ?_)))
  refine qc (vs:=[_]) rfl zld (zlb _ _) ?_
  refine zM ?_
  refine zE ?_
  refine zE ?_
  refine Qv Wg rfl rfl (fun b_20=>?_)
  refine zh Y5 ?_
  refine zA (zN (Qk (zR ?_)))
  refine zM ?_
  refine zC (zN ?_)
  refine zI ?_ ?_<;>intro hc112
  ·
   have he1:(Jo code != 0)=true:=hc112
   refine zR (zA ?_)
   refine zA (zN (Qs (Qb (Qm (Qb (Qb (Qm ?_)))))))
   refine Qb ?_
   refine Jz ?_
   first
   | exact Zr rfl rfl rfl (fun w hw=>⟨_,_,[],rfl,hIc,hw.drop,zpi.bad (zvV hcT heq hcE (ziO hsg (by rw [QN hk];exact zsC hc100 hs hso he1) hlt_k)) (by decide)⟩)
  have he0:(Jo code != 0)=false:=hc112
  refine Qo (Qa (Qk ?_))
  have hD:=zAl J7
  refine JH ?_
  refine Z7 J7 [] mixed ?_
  refine zT 0 rfl (Qh rfl) hD ?_
  refine zT 1 rfl (Qh rfl) hD ?_
  refine zT 2 rfl (Q5 rfl) hD ?_
  refine zT 3 rfl (Qi rfl Kt) hD ?_
  refine zT 4 rfl (Qd rfl Qr (fun hg=>by exact .imm hsp rfl)) hD ?_
  refine zT 5 rfl (Qh rfl) hD ?_
  refine zT 6 rfl (Q5 rfl) hD ?_
  refine zT 7 rfl (Qi rfl JX) hD ?_
  refine zT 8 rfl (Qd rfl Qr (fun hg=>by exact .imm hsp rfl)) hD ?_
  refine zT 9 rfl (Qh rfl) hD ?_
  refine zT 10 rfl (Q5 rfl) hD ?_
  refine zT 11 rfl (Qi rfl VY) hD ?_
  refine zT 12 rfl (Qq rfl VJ (fun hg=>by exact Cells.two hsp rfl rfl) rfl) hD ?_
  refine zT 13 rfl (Qh rfl) hD ?_
  refine zT 14 rfl (Q5 rfl) hD ?_
  refine zT 15 rfl (Qi rfl V1) hD ?_
  refine zT 16 rfl (Qq rfl VJ (fun hg=>by exact Cells.two hsp rfl rfl) rfl) hD ?_
  refine zT 17 rfl (Qi rfl Z9) hD ?_
  refine qd 18 rfl ?_
  refine zS Yd ?_
  refine Qc ?_
  refine zD hD ?_
  refine zT 19 rfl (Qi rfl Kt) hD ?_
  refine qd 20 rfl ?_
  refine zS Yd ?_
  refine Qc ?_
  refine zD hD ?_
  refine zT 21 rfl (Qi rfl JX) hD ?_
  refine qd 22 rfl ?_
  refine zS Yd ?_
  refine Qc ?_
  refine zD hD ?_
  refine zT 23 rfl (Qi rfl VY) hD ?_
  refine qd 24 rfl ?_
  refine JG rfl rfl zbh rfl rfl rfl rfl (by repeat (first | exact Upd.here | apply Upd.there | apply QM)) ?_
  refine Qc ?_
  refine zD hD ?_
  refine zT 25 rfl (Qi rfl V1) hD ?_
  refine qd 26 rfl ?_
  refine JG rfl rfl zbh rfl rfl rfl rfl (by repeat (first | exact Upd.here | apply Upd.there | apply QM)) ?_
  refine Qc ?_
  refine zD hD ?_
  refine QK (by kernel_rfl) ?_
  refine QW ?_
  refine zf7 (loc':=(b_20,.cells (Vy ({Uo code with id:=(k:Int),bar:=sy.bar,mark:=sy.mark,fn:=sy.fn,fd:=sy.fd,tn:=sy.tn,td:=sy.td}:Sg)).toArray 54 (0,0))::(L++[(b_42,.cells (Zk (VD ws.length (YN (atN rows (k+1) 0)))) 3 (0,0))])) rfl ?_
  refine Qa ?_
  refine zY [(0,_),(1,_),(6,_),(10,_),(20,_),(44,_),(45,_),(46,_)] (fun T L0 E I' loc'=>E=T∧HLe J7 I'∧(b_20,.cells (Vy (XA k code sy ((decide ((ws.length:Int)>1)&&(s.many:Int)==1)&& !s.lost))).toArray 54 (0,0))::(L++[(b_42,.cells (Zk (VD ws.length (YN (atN rows (k+1) 0)))) 3 (0,0))])=loc') ?_ ?_
  ·
   have hKc38:=zAl J7
   refine zR (zM ?_)
   refine zQ VI ?_
   refine zC ?_
   refine zM ?_
   refine QG 3 rfl rfl rfl ?_
   refine zK (Qh rfl) ?_
   refine zK (QI rfl rfl rfl) ?_
   refine QL rfl rfl rfl rfl rfl ?_
   refine zM ?_
   refine QG 7 rfl rfl rfl ?_
   refine zK (Qh rfl) ?_
   refine zK (Yw rfl) ?_
   refine QL rfl rfl rfl rfl rfl ?_
   refine zN ?_
   refine zI ?_ ?_<;>intro hc145
   ·
    refine Qf ?_
    refine zF JX ?_
    refine zS Yd ?_
    refine Qc ?_
    refine zf7 (loc':=(b_20,.cells (Vy (XA k code sy ((decide ((ws.length:Int)>1)&&(s.many:Int)==1)&& !s.lost))).toArray 54 (0,0))::(L++[(b_42,.cells (Zk (VD ws.length (YN (atN rows (k+1) 0)))) 3 (0,0))])) (by rw [hc145];rfl) ?_
    exact VQ _ _ ⟨rfl,hKc38,rfl⟩ (.cons rfl (.cons rfl (.cons rfl (.cons rfl (.cons rfl (.cons rfl (.cons rfl (.cons rfl .nil)))))))) .refl
   refine JK (loc':=(b_20,.cells (Vy (XA k code sy ((decide ((ws.length:Int)>1)&&(s.many:Int)==1)&& !s.lost))).toArray 54 (0,0))::(L++[(b_42,.cells (Zk (VD ws.length (YN (atN rows (k+1) 0)))) 3 (0,0))])) (by rw [hc145];rfl) ?_
   refine Qo ?_
   exact VQ _ _ ⟨rfl,hKc38,rfl⟩ (.cons rfl (.cons rfl (.cons rfl (.cons rfl (.cons rfl (.cons rfl (.cons rfl (.cons rfl .nil)))))))) .refl
  rintro E J8 loc' ⟨rfl,hJ145,rfl⟩
  have hB0:=hB0.trans hJ145
  refine Qf (zM ?_)
  refine zV (Qq rfl ZI (fun hg=>by exact Cells.g0) rfl) ?_
  refine Qp (ps:=[(0,_)]) (m:=[Vy (XA k code sy ((decide ((ws.length:Int)>1)&&(s.many:Int)==1)&& !s.lost))]) Uw rfl (.cons rfl (.nil)) rfl (by simp [Z8]) (by decide) (by decide) rfl rfl (fun b_149=>?_)
  refine QU (v:=_) (ys:=[XA k code sy ((decide ((ws.length:Int)>1)&&(s.many:Int)==1)&& !s.lost)].flatMap Vy) (L:=L) rfl rfl Uw hO (by repeat (first | exact .cons .here .nil | exact QD | exact Qy | apply QC | apply QB)) ⟨rfl,fun _=>rfl,by repeat (first | exact zAj | apply zAi | apply zAk)⟩ (znJ [XA k code sy ((decide ((ws.length:Int)>1)&&(s.many:Int)==1)&& !s.lost)]) (by omega) rfl rfl ?_
  intro v9 L9 hO9 _;rw [←List.flatMap_append] at hO9
  refine zA (Qc (Qg (Qa (Qf ?_))))
  refine zB ?_
  refine zM (Qc ?_)
  first
  | exact zm (h:=⟨rd.length-(k+1),by omega,k+1,_,_,_,rfl,rfl,hB0,rfl,by omega,zuF hsg (by rw [QN hk];exact zuY hc100 hs hso he0),by rw [List.length_append];exact hO9,by rw [List.length_append,List.length_singleton];omega⟩)
 have hge_k:rd.length≤k:=by have h:=hc47;simp at h;omega
 obtain rfl:k=rd.length:=by omega
 obtain ⟨t1,t2⟩:=zug hcT heq hcE hsg
 refine QH (Qe (Qe (Qj (Qa (zR (zM ?_))))))
 refine zA ?_
 refine zA (zN (Qs ?_))
 refine Jz ?_
 first
 | exact Zr rfl rfl rfl (fun w hw=>by obtain ⟨I9,av9,c9,h1',h2',e9,h4'⟩:=OwnS.freeze (R:=[_]) hO Z8 (by decide) hw;subst e9;exact ⟨_,I9,[],rfl,hIc.trans h1',h2'.drop,rfl,av9,c9,by rw [t1,t2],by rw [t2];exact h4'⟩)
end
section
open Go Go.Kn Go.Proofs
def zlJ (x:Int):List Int→List Int
 | []=>[x]
 | y::ys=>if x<y then x::y::ys else if x=y then y::ys else y::zlJ x ys
theorem zcj {x z:Int}:∀ {l:List Int},z∈zlJ x l↔z=x∨z∈l
 | []=>by simp [zlJ]
 | y::ys=>by
  unfold zlJ
  split
  ·
   simp
  ·
   split
   ·
    rename_i h;subst h;simp
   ·
    rw [List.mem_cons,zcj,List.mem_cons]
    constructor
    ·
     rintro (h | h | h)
     ·
      exact .inr (.inl h)
     ·
      exact .inl h
     ·
      exact .inr (.inr h)
    ·
     rintro (h | h | h)
     ·
      exact .inr (.inl h)
     ·
      exact .inl h
     ·
      exact .inr (.inr h)
theorem zic {x:Int}:∀ {l:List Int},l.Pairwise (· < ·)→(zlJ x l).Pairwise (· < ·)
 | [],_=>by simp [zlJ]
 | y::ys,h=>by
  rw [List.pairwise_cons] at h
  unfold zlJ
  split
  ·
   rename_i hxy
   rw [List.pairwise_cons,List.pairwise_cons]
   refine ⟨fun z hz=>?_,h⟩
   rcases List.mem_cons.1 hz with e | hz
   ·
    rw [e];exact hxy
   ·
    exact Int.lt_trans hxy (h.1 z hz)
  ·
   split
   ·
    rw [List.pairwise_cons];exact h
   ·
    rw [List.pairwise_cons]
    refine ⟨fun z hz=>?_,zic h.2⟩
    rcases zcj.1 hz with rfl | hz
    ·
     omega
    ·
     exact h.1 z hz
def stU (rows:List (List Int))(l:Nat):List Int:=(stL rows l rows.length).foldr zlJ []
theorem zvt (xs:List Int):(xs.foldr zlJ []).Pairwise (· < ·)∧∀ z,z∈xs.foldr zlJ []↔z∈xs:=by
 induction xs with
 | nil=>simp
 | cons x xs ih=>
  rw [List.foldr_cons]
  exact ⟨zic ih.1,fun z=>by rw [zcj,ih.2,List.mem_cons]⟩
theorem zv2 {a b:List Int}(ha:a.Pairwise (· < ·))(hb:b.Pairwise (· < ·))(h:∀ z,z∈a↔z∈b):a=b:=by
 have hp:a.Perm b:=(List.perm_ext_iff_of_nodup (ha.imp (by intro x y h e;omega)) (hb.imp (by intro x y h e;omega))).2 h
 exact hp.eq_of_pairwise (le:=(· < ·)) (by intro x y _ _ h1 h2;omega) ha hb
theorem zx4 {rows:List (List Int)}{l:Nat}:stE rows l=stU rows l:=by
 refine zv2 zpR (zvt _).1 fun z=>?_
 unfold stU
 rw [(zvt _).2]
 unfold stE;rw [(KJ _).2]
def zmP (rows:List (List Int))(cl:List Int)(l:Nat):List Int:=(stU rows l).filter fun x=>rcV (stU rows l) (uF rows l) cl 63 (ZK rows.length) x==ZP (rcF (stU rows l) (uF rows l) cl 64 (ZK rows.length))
theorem zmy:Y3=zmP:=by
 funext rows cl l
 unfold Y3 zmP zgt zmT
 rw [zx4]
def znA (rows:List (List Int))(cl:List Int)(k:Nat):Int:=if (zmP rows cl k).any (fun y=>(rows.getD 0 []).getD k 0==y)=true then (rows.getD 0 []).getD k 0 else (zmP rows cl k).getD 0 0
def zsN (rows:List (List Int))(cl:List Int)(es:List Em)(k:Nat):Int:=match lfK es k with
 | []=>znA rows cl k
 | e::_=>if e.locus=(k:Int) then e.code else znA rows cl k
theorem znj:UP=zsN:=by
 funext rows cl es k
 have hb:JN rows cl k=znA rows cl k:=by unfold JN znA;rw [zmy]
 unfold UP zsN
 rw [hb]<;>(cases lfK es k<;>rfl)
theorem zgJ {rows:List (List Int)}{cl:List Int}{es:List Em}:Vr rows cl es=(List.range (rows.getD 0 []).length).map (zsN rows cl es):=by unfold Vr;rw [znj]
end
section
open Go Go.Kn Go.Proofs
def zt5 (m:Nat):Int→List Em→Prop
 | _,[]=>True
 | l,e::es=>l<e.locus∧e.locus<(m:Int)∧zt5 m e.locus es
theorem zgX {rows:List (List Int)}{m:Nat}:∀ {l:Int} {es:List Em},JZ rows m l es=true→zt5 m l es
 | _,[],_=>trivial
 | l,e::es,h=>by
  have h:(!zbA rows m l e&&JZ rows m e.locus es)=true:=h
  rw [Bool.and_eq_true] at h
  obtain ⟨h1,h2⟩:=h
  unfold zbA at h1
  simp only [Bool.not_or,Bool.and_eq_true,Bool.not_eq_true',decide_eq_false_iff_not] at h1
  exact ⟨by omega,by omega,zgX h2⟩
theorem zbW {m:Nat}:∀ {l:Int} {es:List Em},zt5 m l es→∀ e∈es,l<e.locus∧e.locus<(m:Int)
 | _,[],_,e,h=>by cases h
 | l,x::es,hi,e,h=>by
  rcases List.mem_cons.1 h with rfl | h
  ·
   exact ⟨hi.1,hi.2.1⟩
  ·
   have:=zbW hi.2.2 e h
   have:=hi.1
   exact ⟨by omega,by omega⟩
theorem zjT {m:Nat}:∀ (k:Nat) {es:List Em},zt5 m (-1) es→∃ pre,es=pre++lfK es k∧(∀ e∈pre,e.locus<(k:Int))∧(∀ e∈lfK es k,(k:Int)≤e.locus)∧zt5 m ((k:Int)-1) (lfK es k)
 | 0,es,h=>⟨[],rfl,(fun e he=>by cases he),(fun e he=>by have:=(zbW h e he).1;omega),by simpa [lfK] using h⟩
 | k+1,es,h=>by
  obtain ⟨pre,h1,h2,h3,h4⟩:=zjT k h
  cases hl:lfK es k with
  | nil=>
   rw [zo3 hl]
   rw [hl] at h1
   exact ⟨pre,h1,(fun e he=>by have:=h2 e he;omega),(fun e he=>by cases he),trivial⟩
  | cons x r=>
   rw [hl] at h1 h3 h4
   obtain ⟨i1,i2,i3⟩:=h4
   by_cases hx:x.locus=(k:Int)
   ·
    rw [zoW hl hx]
    refine ⟨pre++[x],by rw [List.append_assoc];exact h1,fun e he=>?_,fun e he=>?_,?_⟩
    ·
     rcases List.mem_append.1 he with he | he
     ·
      have:=h2 e he;omega
     ·
      rw [List.mem_singleton.1 he,hx];omega
    ·
     have:=(zbW i3 e he).1;omega
    ·
     rw [hx] at i3
     rw [show ((k+1:Nat):Int)-1=(k:Int) by omega];exact i3
   ·
    rw [zv7 hl hx]
    have h3x:=h3 x (List.mem_cons_self ..)
    refine ⟨pre,h1,(fun e he=>by have:=h2 e he;omega),fun e he=>?_,⟨by omega,i2,i3⟩⟩
    rcases List.mem_cons.1 he with rfl | he
    ·
     omega
    ·
     have:=(zbW i3 e he).1;omega
end
section
open Go Go.Kn Go.Proofs
theorem X7 {n:Int}(h:0≤n∧n≤9223372036854775807):IntKind.i64.wrap n=n:=by
 unfold IntKind.wrap IntKind.signed IntKind.bits;simp;omega
theorem zgL {a:Nat}(h:a<18446744073709551616):(BitVec.ofInt 64 (a:Int)).toNat=a:=by
 rw [BitVec.toNat_ofInt]
 omega
theorem zsG {a b:Nat}(ha:a<9223372036854775808)(hb:b<9223372036854775808):orI (a:Int) (b:Int)=((a||| b:Nat):Int):=by
 unfold orI
 rw [BitVec.toNat_or,zgL (by omega),zgL (by omega)]
 have:a||| b<2^63:=Nat.or_lt_two_pow (by omega) (by omega)
 exact X7 (by omega)
theorem zog {a b:Nat}(ha:a<9223372036854775808)(hb:b<9223372036854775808):JO (a:Int) (b:Int)=((a&&& b:Nat):Int):=by
 unfold JO
 rw [BitVec.toNat_and,zgL (by omega),zgL (by omega)]
 have:a&&& b≤a:=Nat.and_le_left
 exact X7 (by omega)
theorem zzZ {c n b:Nat}(hb:b≤8)(hn:n<2^b)(hc:c<2^40):orI (IntKind.i64.wrap ((c:Int)*2^(min (b:Int).toNat IntKind.i64.bits))) (n:Int)=((c*2^b+n:Nat):Int):=by
 have e1:min (b:Int).toNat IntKind.i64.bits=b:=by
  show min b 64=b
  omega
 have h2:2^b≤2^8:=Nat.pow_le_pow_right (by decide) hb
 have h3:c*2^b<2^40*2^8:=Nat.mul_lt_mul_of_lt_of_le hc h2 (by decide)
 have e2:(c:Int)*2^b=((c*2^b:Nat):Int):=by simp
 rw [e1,e2,X7 (by omega),zsG (by omega) (by omega)]
 have:=Nat.two_pow_add_eq_or_of_lt hn c
 rw [Nat.mul_comm c]
 rw [this]
theorem zzC {b:Nat}(hb:b≤8):IntKind.i64.wrap (1*2^(min (b:Int).toNat IntKind.i64.bits))-1=((2^b-1:Nat):Int):=by
 have e1:min (b:Int).toNat IntKind.i64.bits=b:=by
  show min b 64=b
  omega
 have h1:0<2^b:=Nat.pow_pos (by decide)
 have h2:2^b≤2^8:=Nat.pow_le_pow_right (by decide) hb
 have e2:(1:Int)*2^b=((2^b:Nat):Int):=by simp
 rw [e1,e2,X7 (by omega)]
 omega
theorem WI {b c:Nat}(hb:b≤8)(hc:c<2^62):lbN b (c:Int)=((c % 2^b:Nat):Int):=by
 unfold lbN
 have h2:2^b≤2^8:=Nat.pow_le_pow_right (by decide) hb
 rw [zzC hb,zog (by omega) (by omega),Nat.and_two_pow_sub_one_eq_mod]
theorem W2 {b c:Nat}(hb:b≤8):shN b (c:Int)=((c / 2^b:Nat):Int):=by
 unfold shN
 have e1:min (b:Int).toNat IntKind.i64.bits=b:=by
  show min b 64=b
  omega
 rw [e1]
 have e2:(2:Int)^b=((2^b:Nat):Int):=by simp
 rw [e2]
 rw [Int.fdiv_eq_ediv_of_nonneg _ (Int.natCast_nonneg _)]
 first | exact (Int.natCast_ediv _ _).symm | exact (Int.ofNat_ediv _ _).symm | rfl
structure zqj (r k s d l z w:Nat):Prop where
 r:r≤63
 k1:1≤k
 k:k≤9
 s:s≤2
 d:d≤8
 l:l≤3
 z:z≤255
 w:w≤64
def zhC (r k s d l z w:Nat):Nat:=(((((r*16+k)*4+s)*16+d)*4+l)*256+z)*128+w
theorem zzg {r k s d l z w:Nat}(h:zqj r k s d l z w):Y2 0 [⟨r,0,63,6⟩,⟨k,1,9,4⟩,⟨s,0,2,2⟩,⟨d,0,8,4⟩,⟨l,0,3,2⟩,⟨z,0,255,8⟩,⟨w,0,64,7⟩]=some ((zhC r k s d l z w:Nat):Int):=by
 obtain ⟨h1,h2,h3,h4,h5,h6,h7,h8⟩:=h
 have g:∀ {c:Int} {x:Dg} {ds:List Dg},zcO x=false→Y2 c (x::ds)=Y2 (zlG c x) ds:=fun {c x ds} hb=>by
  show (if zcO x=true then none else Y2 (zlG c x) ds)=_
  rw [if_neg (by rw [hb];decide)]
 have q:∀ {c n b:Nat} {lo hi:Int},b≤8→n<2^b→c<2^40→zlG (c:Int) ⟨(n:Int),lo,hi,(b:Int)⟩=((c*2^b+n:Nat):Int):=fun hb hn hc=>zzZ hb hn hc
 have bd:∀ {n lo hi b:Int},lo≤n→n≤hi→zcO ⟨n,lo,hi,b⟩=false:=fun a b=>by unfold zcO;simp;omega
 rw [g (bd (by omega) (by omega)),show (0:Int)=((0:Nat):Int) from rfl,show (6:Int)=((6:Nat):Int) from rfl,q (by decide) (by omega) (by decide)]
 rw [g (bd (by omega) (by omega)),show (4:Int)=((4:Nat):Int) from rfl,q (b:=4) (by decide) (by omega) (by omega)]
 rw [g (bd (by omega) (by omega)),show (2:Int)=((2:Nat):Int) from rfl,q (b:=2) (by decide) (by omega) (by omega)]
 rw [g (bd (by omega) (by omega)),q (b:=4) (by decide) (by omega) (by omega)]
 rw [g (bd (by omega) (by omega)),q (b:=2) (by decide) (by omega) (by omega)]
 rw [g (bd (by omega) (by omega)),show (8:Int)=((8:Nat):Int) from rfl,q (b:=8) (by decide) (by omega) (by omega)]
 rw [g (bd (by omega) (by omega)),show (7:Int)=((7:Nat):Int) from rfl,q (b:=7) (by decide) (by omega) (by omega)]
 show some _=some _
 unfold zhC
 simp
theorem zfx (c:Nat)(hc:c<2^33):zjL (c:Int)=⟨0,((c / 128 / 256 / 4 / 16 / 4 / 16:Nat):Int),0,0,((c / 128 / 256 / 4 / 16 / 4 % 16:Nat):Int),((c / 128 / 256 / 4 / 16 % 4:Nat):Int),((c / 128 / 256 / 4 % 16:Nat):Int),((c / 128 / 256 % 4:Nat):Int),((c / 128 % 256:Nat):Int),((c % 128:Nat):Int),0,0,0,0⟩:=by
 have s7:shN 7 (c:Int)=((c / 128:Nat):Int):=W2 (by decide)
 have s8:shN 8 ((c / 128:Nat):Int)=((c / 128 / 256:Nat):Int):=W2 (by decide)
 have s2:shN 2 ((c / 128 / 256:Nat):Int)=((c / 128 / 256 / 4:Nat):Int):=W2 (by decide)
 have s4:shN 4 ((c / 128 / 256 / 4:Nat):Int)=((c / 128 / 256 / 4 / 16:Nat):Int):=W2 (by decide)
 have t2:shN 2 ((c / 128 / 256 / 4 / 16:Nat):Int)=((c / 128 / 256 / 4 / 16 / 4:Nat):Int):=W2 (by decide)
 have t4:shN 4 ((c / 128 / 256 / 4 / 16 / 4:Nat):Int)=((c / 128 / 256 / 4 / 16 / 4 / 16:Nat):Int):=W2 (by decide)
 unfold zjL
 rw [s7,s8,s2,s4,t2,t4]
 rw [WI (b:=4) (c:=c / 128 / 256 / 4 / 16 / 4) (by decide) (by omega),WI (b:=2) (c:=c / 128 / 256 / 4 / 16) (by decide) (by omega),WI (b:=4) (c:=c / 128 / 256 / 4) (by decide) (by omega),WI (b:=2) (c:=c / 128 / 256) (by decide) (by omega),WI (b:=8) (c:=c / 128) (by decide) (by omega),WI (b:=7) (c:=c) (by decide) (by omega)]
end
section
open Go Go.Kn Go.Proofs
theorem zoZ {x:Sg}(h:(Y2 0 (dgs x)).isSome=true):∃ r k s d l z w:Nat,zqj r k s d l z w∧x.role=r∧x.kind=k∧x.side=s∧x.dir=d∧x.level=l∧x.size=z∧x.wth=w:=by
 have g:∀ {c:Int} {y:Dg} {ds:List Dg},(Y2 c (y::ds)).isSome=true→zcO y=false∧(Y2 (zlG c y) ds).isSome=true:=fun {c y ds} hs=>by
  have hs:(if zcO y=true then none else Y2 (zlG c y) ds).isSome=true:=hs
  cases hb:zcO y with
  | true=>rw [hb] at hs;cases hs
  | false=>rw [hb] at hs;exact ⟨rfl,hs⟩
 have u:∀ {n lo hi b:Int},zcO ⟨n,lo,hi,b⟩=false→lo≤n∧n≤hi:=fun hb=>by unfold zcO at hb;simp at hb;omega
 unfold dgs at h
 obtain ⟨b1,h⟩:=g h
 obtain ⟨b2,h⟩:=g h
 obtain ⟨b3,h⟩:=g h
 obtain ⟨b4,h⟩:=g h
 obtain ⟨b5,h⟩:=g h
 obtain ⟨b6,h⟩:=g h
 obtain ⟨b7,_⟩:=g h
 have b1:=u b1;have b2:=u b2;have b3:=u b3;have b4:=u b4;have b5:=u b5;have b6:=u b6;have b7:=u b7
 exact ⟨x.role.toNat,x.kind.toNat,x.side.toNat,x.dir.toNat,x.level.toNat,x.size.toNat,x.wth.toNat,⟨by omega,by omega,by omega,by omega,by omega,by omega,by omega,by omega⟩,by omega,by omega,by omega,by omega,by omega,by omega,by omega⟩
theorem zfZ {x:Sg}{r k s d l z w:Nat}(h:zqj r k s d l z w)(e:x.role=r∧x.kind=k∧x.side=s∧x.dir=d∧x.level=l∧x.size=z∧x.wth=w):zay x=((zhC r k s d l z w:Nat):Int)∧JM x=0:=by
 obtain ⟨e1,e2,e3,e4,e5,e6,e7⟩:=e
 have hp:Y2 0 (dgs x)=some ((zhC r k s d l z w:Nat):Int):=by
  unfold dgs
  rw [e1,e2,e3,e4,e5,e6,e7]
  exact zzg h
 unfold zay JM
 rw [hp];exact ⟨rfl,rfl⟩
theorem zn5 {x:Sg}(h:JM x=0):(Y2 0 (dgs x)).isSome=true:=by
 unfold JM at h
 split at h
 ·
  assumption
 ·
  cases h
theorem ziI {c:Int}(h:Jo c=0):zay (Uo c)=c∧JM (Uo c)=0∧0<c∧c<8589934592:=by
 have hs:Uo c=zjL c:=by unfold Uo;rw [if_neg (by omega)]
 have hraw:JM (zjL c)=0:=h
 obtain ⟨r,k,s,d,l,z,w,hd,e⟩:=zoZ (zn5 hraw)
 have hrole:(zjL c).role=shN 4 (shN 2 (shN 4 (shN 2 (shN 8 (shN 7 c))))):=rfl
 have hc:0≤c∧c<2^33:=by
  have e1:=e.1
  rw [hrole] at e1
  have hr:=hd.r
  have u:∀ (b:Nat) (x:Int),b≤8→shN b x=x.fdiv (2^b):=fun b x hb=>by
   unfold shN
   have:min (b:Int).toNat IntKind.i64.bits=b:=by
    show min b 64=b
    omega
   rw [this]
  rw [u 4 _ (by decide),u 2 _ (by decide),u 4 _ (by decide),u 2 _ (by decide),u 8 _ (by decide),u 7 _ (by decide)] at e1
  have v:∀ (x:Int) (m:Int),0<m→x.fdiv m=x / m:=fun x m hm=>Int.fdiv_eq_ediv_of_nonneg _ (by omega)
  rw [v _ _ (by decide),v _ _ (by decide),v _ _ (by decide),v _ _ (by decide),v _ _ (by decide),v _ _ (by decide)] at e1
  have e1:c / 128 / 256 / 4 / 16 / 4 / 16=(r:Int):=e1
  omega
 obtain ⟨n,rfl⟩:∃ n:Nat,c=(n:Int):=⟨c.toNat,by omega⟩
 have hn:=zfx n (by omega)
 obtain ⟨c1,c2⟩:=zfZ hd e
 rw [hs]
 refine ⟨?_,c2,?_,by omega⟩
 ·
  rw [c1]
  rw [hn] at e
  obtain ⟨e1,e2,e3,e4,e5,e6,e7⟩:=e
  simp only at e1 e2 e3 e4 e5 e6 e7
  unfold zhC
  omega
 ·
  rw [hn] at e
  have e2:((n / 128 / 256 / 4 / 16 / 4 % 16:Nat):Int)=(k:Int):=e.2.1
  have:=hd.k1
  omega
end
section
open Go Go.Kn Go.Proofs
def cz:Nat→(Nat→Int)→Nat
 | 0,_=>0
 | n+1,f=>cz n f+(if f n=0 then 0 else 1)
theorem zd5:∀ n,cz n (fun _=>0)=0
 | 0=>rfl
 | n+1=>by unfold cz;rw [zd5 n];rfl
theorem zpU {f:Nat→Int}{a:Nat}{v:Int}:∀ n,cz n (US f a v)≤cz n f+(if a<n then 1 else 0)
 | 0=>Nat.zero_le _
 | n+1=>by
  have ih:=zpU (f:=f) (a:=a) (v:=v) n
  unfold cz
  by_cases e:n=a
  ·
   subst e
   rw [KR,if_pos (show n<n+1 by omega)]
   rw [if_neg (show ¬n<n by omega)] at ih
   split<;>split<;>omega
  ·
   rw [zaN e]
   by_cases h:a<n
   ·
    rw [if_pos h] at ih
    rw [if_pos (show a<n+1 by omega)]
    split<;>omega
   ·
    rw [if_neg h] at ih
    rw [if_neg (show ¬a<n+1 by omega)]
    split<;>omega
theorem zie {f:Nat→Int}{a n:Nat}{v:Int}:cz n (US f a v)≤cz n f+1:=by
 have:=zpU (f:=f) (a:=a) (v:=v) n
 split at this<;>omega
theorem zxD {w:Nat→Nat}{T:List Int}{n:Nat}:∀ k,cz n (txF w T k)≤k
 | 0=>by show cz n (fun _=>0)≤0;rw [zd5];exact Nat.le_refl _
 | k+1=>by
  have ih:=zxD (w:=w) (T:=T) (n:=n) k
  have:=zie (f:=txF w T k) (a:=V6 w k+w k) (n:=n) (v:=T.getD k 0)
  show cz n (US (txF w T k) (V6 w k+w k) (T.getD k 0))≤k+1
  omega
def both (y:Int×Int):Bool:=decide (y.1>0)&&decide (y.2>0)
theorem zyF {w:Nat→Nat}{l:List Int}{n:Nat}(ps:List (Int×Int)):∀ (f:Nat→Int),cz n (ps.foldl (prF w l) f)≤cz n f+(ps.filter both).length:=by
 induction ps with
 | nil=>intro f;exact Nat.le_refl _
 | cons y ps ih=>
  intro f
  rw [List.foldl_cons]
  have h:=ih (prF w l f y)
  cases hb:(decide (y.1>0)&&decide (y.2>0)) with
  | true=>
   rw [zlp hb] at h ⊢
   have h2:=zie (f:=f) (a:=V6 w (y.1-1).toNat+w (y.1-1).toNat) (n:=n) (v:=l.getD (y.2-1).toNat 0)
   rw [List.filter_cons_of_pos (show both y=true from hb),List.length_cons];omega
  | false=>
   rw [zo6 hb] at h ⊢
   rw [List.filter_cons_of_neg (show ¬both y=true by unfold both;rw [hb];decide)];exact h
theorem zyq {w:Nat→Nat}{l:List Int}{n:Nat}(qs:List (Int×Int)):∀ (s:(Nat→Int)×(Nat→Nat)),cz n (qs.foldl (alS w l) s).1≤cz n s.1+qs.length:=by
 induction qs with
 | nil=>intro s;exact Nat.le_refl _
 | cons q qs ih=>
  intro s
  rw [List.foldl_cons]
  have h:=ih (alS w l s q)
  have h2:=zie (f:=s.1) (a:=V6 w q.1.toNat+s.2 q.1.toNat) (n:=n) (v:=l.getD q.2.toNat 0)
  have h3:cz n (alS w l s q).1≤cz n s.1+1:=h2
  rw [List.length_cons];omega
def sec (y:Int×Int):Bool:=decide (y.2>0)
theorem zfc {m n:Nat}:∀ (ps:List (Int×Int)) (a:Int),(∀ p∈ps,QOK m n p)→(ps.filter both).length+(zaO a ps).length≤(ps.filter sec).length
 | [],_,_=>Nat.le_refl _
 | p::ps,a,h=>by
  obtain ⟨i,k,rfl,_,_,h0⟩:=h p (List.mem_cons_self ..)
  have hr:=fun q hq=>h q (List.mem_cons_of_mem _ hq)
  unfold zaO
  split
  ·
   rename_i hi
   have ih:=zfc ps (i:Int) hr
   by_cases hk:0<k
   ·
    rw [List.filter_cons_of_pos (show both ((i:Int),(k:Int))=true by unfold both;simp at hi ⊢;omega),List.filter_cons_of_pos (show sec ((i:Int),(k:Int))=true by unfold sec;simp;omega),List.length_cons,List.length_cons]
    have ih:(ps.filter both).length+(zaO ((i:Int),(k:Int)).1 ps).length≤(ps.filter sec).length:=ih
    omega
   ·
    rw [List.filter_cons_of_neg (show ¬both ((i:Int),(k:Int))=true by unfold both;simp;omega),List.filter_cons_of_neg (show ¬sec ((i:Int),(k:Int))=true by unfold sec;simp;omega)]
    exact ih
  ·
   rename_i hi
   have ih:=zfc ps a hr
   have hi0:i=0:=by simp at hi;omega
   rw [List.filter_cons_of_neg (show ¬both ((i:Int),(k:Int))=true by unfold both;simp;omega),List.filter_cons_of_pos (show sec ((i:Int),(k:Int))=true by unfold sec;simp;omega),List.length_cons,List.length_cons]
   omega
theorem zf3 {a b:List Int}:∀ (f i k:Nat),i≤a.length→k≤b.length→((paF a b f i k).filter sec).length+k≤b.length
 | 0,_,k,_,hk=>by show 0+k≤_;omega
 | f+1,i,k,hi,hk=>by
  unfold paF
  split
  ·
   rename_i hg
   split
   ·
    rename_i hb
    have h1:i<a.length∧k<b.length:=by unfold Xt at hb;simp at hb;omega
    have ih:=zf3 f (i+1) (k+1) h1.1 h1.2
    rw [List.filter_cons_of_pos (show sec (((i+1:Nat):Int),((k+1:Nat):Int))=true by unfold sec;simp<;>omega),List.length_cons];omega
   ·
    rename_i hb
    split
    ·
     rename_i ho
     have h1:i<a.length:=by unfold zhT at ho;simp at ho;omega
     have ih:=zf3 f (i+1) k h1 hk
     rw [List.filter_cons_of_neg (show ¬sec (((i+1:Nat):Int),(0:Int))=true by unfold sec;simp)];exact ih
    ·
     rename_i ho
     have h1:k<b.length:=ziK hi hk (by simp at hg;omega) (by simpa using hb) (by simpa using ho)
     have ih:=zf3 f i (k+1) hi h1
     rw [List.filter_cons_of_pos (show sec ((0:Int),((k+1:Nat):Int))=true by unfold sec;simp<;>omega),List.length_cons];omega
  ·
   show 0+k≤_;omega
theorem zto {xs:List Wr}{i:Nat}:((pfW xs i).filter both).length+(alW xs i).length≤(csW xs i).length:=by
 have h1:=zfc (pfW xs i) 0 (zac (xs:=xs) (i:=i)).1
 have h2:((pfW xs i).filter sec).length≤(csW xs i).length:=by
  unfold pfW
  split
  ·
   exact Nat.zero_le _
  ·
   unfold Je
   split
   ·
    exact Nat.zero_le _
   ·
    have:=zf3 (a:=csW xs 0) (b:=csW xs i) ((csW xs 0).length+(csW xs i).length) 0 0 (Nat.zero_le _) (Nat.zero_le _)
    unfold zl9;omega
 exact Nat.le_trans h1 h2
theorem zuA {xs:List Wr}{i n:Nat}:cz n (zsk (wdW xs) (csW xs 0) (csW xs i) i (pfW xs i))≤(csW xs i).length:=by
 unfold zsk alP
 have h1:=zyq (w:=wdW xs) (l:=csW xs i) (n:=n) (zjw (pfW xs i)) ((pfW xs i).foldl (prF (wdW xs) (csW xs i)) (if i=0 then txF (wdW xs) (csW xs 0) (csW xs 0).length else fun _=>0),fun _=>0)
 have h2:=zyF (w:=wdW xs) (l:=csW xs i) (n:=n) (pfW xs i) (if i=0 then txF (wdW xs) (csW xs 0) (csW xs 0).length else fun _=>0)
 have h3:=zto (xs:=xs) (i:=i)
 by_cases h0:i=0
 ·
  subst h0
  have h4:=zxD (w:=wdW xs) (T:=csW xs 0) (n:=n) (csW xs 0).length
  have e1:pfW xs 0=[]:=rfl
  rw [e1] at h1 h2 ⊢
  simp only [if_true] at h1 h2 ⊢
  have e2:zjw []=[]:=rfl
  rw [e2] at h1 ⊢
  simp only [List.filter_nil,List.length_nil,Nat.add_zero] at h1 h2
  omega
 ·
  rw [if_neg h0] at h1 h2 ⊢
  rw [zd5] at h2
  have e3:(alW xs i).length=(zjw (pfW xs i)).length:=rfl
  simp only at h1
  omega
theorem zop {n:Nat}{f:Nat→Int}:∀ k,k≤n→nzF (VD n f) k=cz k f
 | 0,_=>rfl
 | k+1,hk=>by
  have ih:=zop (n:=n) (f:=f) k (by omega)
  have hx:(VD n f)[k]? =some (f k):=YH (by omega)
  unfold cz
  by_cases h:f k=0
  ·
   rw [zpw hx (by simp [h]),ih,if_pos h];rfl
  ·
   rw [zis hx (by simp [h]),ih,if_neg h]
theorem zoE {xs:List Wr}:zyE xs (Wu xs):=by
 intro i x row hx hr k hk h0
 have hil:(Wu xs).length≤xs.length:=zeK.1
 unfold Wu at hr
 split at hr
 ·
  simp at hr
 ·
  rw [List.getElem?_map] at hr
  have hi:=(List.getElem?_eq_some_iff.1 hx).1
  rw [List.getElem?_range hi,Option.map_some] at hr
  have hr:=(Option.some.inj hr).symm
  subst hr
  unfold zqA at hk h0 ⊢
  rw [Yb] at hk
  have hg:=QN (d:=0) (YH (f:=zsk (wdW xs) (csW xs 0) (csW xs i) i (pfW xs i)) hk)
  rw [hg] at h0
  rw [zop k (by omega)]
  have h1:=zuA (xs:=xs) (i:=i) (n:=k+1)
  have h2:cz (k+1) (zsk (wdW xs) (csW xs 0) (csW xs i) i (pfW xs i))=cz k (zsk (wdW xs) (csW xs 0) (csW xs i) i (pfW xs i))+1:=by
   show _+(if _ then 0 else 1)=_
   rw [if_neg h0]
  have h3:(csW xs i).length=x.rs.length:=by rw [zfY hx,List.length_map]
  omega
end
section
open Go Go.Kn Go.Proofs
theorem zql {ws:List Wr}(h:zaP ws=0)(h0:0<(Wu ws).length):Xw ws=0∧(Wu ws).length=ws.length:=by
 rcases zrU h with h1 | h1
 ·
  exact ⟨(ziP h1).1,zgd rfl h0⟩
 ·
  rw [h1] at h0;simp at h0
end
section
open Go Go.Kn Go.Proofs
def W9 (l:List Int)(n:Int):Nat→Nat
 | 0=>0
 | k+1=>if n<l.getD k 0 then W9 l n k else k+1
theorem zmr {l:List Int}{n:Int}{k:Nat}(h:(decide ((k:Int)>0)&&decide (l.getD ((k:Int)-1).toNat 0>n))=true):∃ j,k=j+1∧W9 l n k=W9 l n j:=by
 simp only [Bool.and_eq_true,decide_eq_true_eq] at h
 cases k with
 | zero=>omega
 | succ j=>
  refine ⟨j,rfl,?_⟩
  have e:(((j+1:Nat):Int)-1).toNat=j:=by omega
  rw [e] at h
  show (if n<l.getD j 0 then W9 l n j else j+1)=_
  rw [if_pos h.2]
theorem zq3 {l:List Int}{n:Int}{k:Nat}(h:(decide ((k:Int)>0)&&decide (l.getD ((k:Int)-1).toNat 0>n))=false):W9 l n k=k:=by
 cases k with
 | zero=>rfl
 | succ j=>
  have e:(((j+1:Nat):Int)-1).toNat=j:=by omega
  rw [e] at h
  simp only [Bool.and_eq_false_iff,decide_eq_false_iff_not] at h
  show (if n<l.getD j 0 then W9 l n j else j+1)=_
  rw [if_neg (by omega)]
def zdW (l:List Int)(n:Int):List Int:=l.take (W9 l n l.length)++[n]++l.drop (W9 l n l.length)
theorem ze9 {l:List Int}{n:Int}:∀ k,W9 l n k≤k
 | 0=>Nat.le_refl _
 | k+1=>by
  show (if n<l.getD k 0 then W9 l n k else k+1)≤_
  have:=ze9 (l:=l) (n:=n) k
  split<;>omega
theorem zkg {l:List Int}{n:Int}:∀ k,∀ j,W9 l n k≤j→j<k→n<l.getD j 0
 | 0,j,_,h=>by omega
 | k+1,j,h1,h2=>by
  have h1:(if n<l.getD k 0 then W9 l n k else k+1)≤j:=h1
  split at h1
  ·
   rename_i h
   by_cases e:j=k
   ·
    subst e;exact h
   ·
    exact zkg k j h1 (by omega)
  ·
   omega
theorem zjq {l:List Int}{n:Int}:∀ k,0<W9 l n k→¬n<l.getD (W9 l n k-1) 0
 | 0,h=>by cases h
 | k+1,h=>by
  have e:W9 l n (k+1)=if n<l.getD k 0 then W9 l n k else k+1:=rfl
  rw [e] at h ⊢
  by_cases hc:n<l.getD k 0
  ·
   rw [if_pos hc] at h ⊢;exact zjq k h
  ·
   rw [if_neg hc];exact hc
theorem zm0 {l:List Int}{n:Int}:(zdW l n).length=l.length+1:=by
 unfold zdW
 have:=ze9 (l:=l) (n:=n) l.length
 simp;omega
theorem znw {l:List Int}{n z:Int}:z∈zdW l n↔z=n∨z∈l:=by
 unfold zdW
 rw [List.mem_append,List.mem_append,List.mem_singleton]
 have h:=List.take_append_drop (W9 l n l.length) l
 constructor
 ·
  rintro ((h1 | h1) | h1)
  ·
   exact .inr (List.mem_of_mem_take h1)
  ·
   exact .inl h1
  ·
   exact .inr (List.mem_of_mem_drop h1)
 ·
  rintro (h1 | h1)
  ·
   exact .inl (.inr h1)
  ·
   rw [←h] at h1
   rcases List.mem_append.1 h1 with h1 | h1
   ·
    exact .inl (.inl h1)
   ·
    exact .inr h1
theorem zqw {l:List Int}{n:Int}(h:l.Pairwise (· < ·))(hn:n∉l):(zdW l n).Pairwise (· < ·):=by
 have hp:=ze9 (l:=l) (n:=n) l.length
 have hlo:=zjq (l:=l) (n:=n) l.length
 have hhi:=zkg (l:=l) (n:=n) l.length
 have a1:∀ y∈l.take (W9 l n l.length),y<n:=fun y hy=>by
  obtain ⟨i,hi⟩:=List.getElem?_of_mem hy
  rw [List.getElem?_take] at hi
  split at hi
  ·
   rename_i hip
   have hl:=hlo (by omega)
   have hil:i<l.length:=by omega
   have hne:y≠n:=fun e=>hn (by rw [←e];exact List.mem_of_getElem? hi)
   have hge:l.getD (W9 l n l.length-1) 0≤n:=by omega
   by_cases e:i=W9 l n l.length-1
   ·
    rw [←e,QN hi] at hge;omega
   ·
    have hx:l[W9 l n l.length-1]? =some (l.getD (W9 l n l.length-1) 0):=QX rfl (by omega)
    have h1:=List.pairwise_iff_getElem.1 h i (W9 l n l.length-1) hil (by omega) (by omega)
    have e1:=(List.getElem?_eq_some_iff.1 hi).2
    have e2:=(List.getElem?_eq_some_iff.1 hx).2
    rw [e1,e2] at h1
    omega
  ·
   cases hi
 have a2:∀ y∈l.drop (W9 l n l.length),n<y:=fun y hy=>by
  obtain ⟨i,hi⟩:=List.getElem?_of_mem hy
  rw [List.getElem?_drop] at hi
  have hil:=(List.getElem?_eq_some_iff.1 hi).1
  have:=hhi (W9 l n l.length+i) (by omega) hil
  rw [QN hi] at this;exact this
 unfold zdW
 rw [List.append_assoc,List.pairwise_append]
 refine ⟨h.sublist (List.take_sublist _ _),?_,fun a ha b hb=>?_⟩
 ·
  rw [List.singleton_append,List.pairwise_cons]
  exact ⟨a2,h.sublist (List.drop_sublist _ _)⟩
 ·
  rw [List.singleton_append] at hb
  rcases List.mem_cons.1 hb with rfl | hb
  ·
   exact a1 a ha
  ·
   have:=a1 a ha;have:=a2 b hb;omega
def zaE (st cs:List Int)(b:Int):Nat→List Int
 | 0=>[]
 | k+1=>if cs.getD k 0=b then zdW (zaE st cs b k) (st.getD k 0) else zaE st cs b k
theorem zn0 {st cs:List Int}{b x y:Int}{k:Nat}(hx:st[k]? =some x)(hy:cs[k]? =some y)(h:y=b):zaE st cs b (k+1)=zdW (zaE st cs b k) x:=by
 show (if cs.getD k 0=b then zdW (zaE st cs b k) (st.getD k 0) else zaE st cs b k)=_
 rw [QN hy,if_pos h,QN hx]
theorem zqm {st cs:List Int}{b y:Int}{k:Nat}(hy:cs[k]? =some y)(h:y≠b):zaE st cs b (k+1)=zaE st cs b k:=by
 show (if cs.getD k 0=b then zdW (zaE st cs b k) (st.getD k 0) else zaE st cs b k)=_
 rw [QN hy,if_neg h]
theorem zfX {st cs:List Int}{b:Int}:∀ k,(zaE st cs b k).length≤k
 | 0=>Nat.le_refl _
 | k+1=>by
  show (if cs.getD k 0=b then zdW (zaE st cs b k) (st.getD k 0) else zaE st cs b k).length≤_
  have:=zfX (st:=st) (cs:=cs) (b:=b) k
  split
  ·
   rw [zm0];omega
  ·
   omega
theorem zbQ {st cs:List Int}{b z:Int}:∀ k,z∈zaE st cs b k↔ ∃ i,i<k∧st.getD i 0=z∧cs.getD i 0=b
 | 0=>by
  constructor
  ·
   intro h;cases h
  ·
   rintro ⟨i,h,_⟩;omega
 | k+1=>by
  have ih:=zbQ (st:=st) (cs:=cs) (b:=b) (z:=z) k
  have e:zaE st cs b (k+1)=if cs.getD k 0=b then zdW (zaE st cs b k) (st.getD k 0) else zaE st cs b k:=rfl
  rw [e]
  split
  ·
   rename_i hc
   rw [znw,ih]
   constructor
   ·
    rintro (rfl | ⟨i,h1,h2⟩)
    ·
     exact ⟨k,by omega,rfl,hc⟩
    ·
     exact ⟨i,by omega,h2⟩
   ·
    rintro ⟨i,h1,h2,h3⟩
    by_cases e:i=k
    ·
     subst e;exact .inl h2.symm
    ·
     exact .inr ⟨i,by omega,h2,h3⟩
  ·
   rename_i hc
   rw [ih]
   constructor
   ·
    rintro ⟨i,h1,h2⟩;exact ⟨i,by omega,h2⟩
   ·
    rintro ⟨i,h1,h2,h3⟩
    by_cases e:i=k
    ·
     subst e;exact absurd h3 hc
    ·
     exact ⟨i,by omega,h2,h3⟩
theorem zkN {st cs:List Int}{b:Int}(hd:st.Nodup):∀ k,k≤st.length→(zaE st cs b k).Pairwise (· < ·)
 | 0,_=>List.Pairwise.nil
 | k+1,hk=>by
  have ih:=zkN (cs:=cs) (b:=b) hd k (by omega)
  have e:zaE st cs b (k+1)=if cs.getD k 0=b then zdW (zaE st cs b k) (st.getD k 0) else zaE st cs b k:=rfl
  rw [e]
  split
  ·
   refine zqw ih fun h=>?_
   obtain ⟨i,h1,h2,_⟩:=(zbQ k).1 h
   have hx:st[i]? =some (st.getD i 0):=QX rfl (by omega)
   have hy:st[k]? =some (st.getD k 0):=QX rfl (by omega)
   have e1:=(List.getElem?_eq_some_iff.1 hx).2
   have e2:=(List.getElem?_eq_some_iff.1 hy).2
   exact List.pairwise_iff_getElem.1 hd i k (by omega) (by omega) h1 (by rw [e1,e2,h2])
  ·
   exact ih
def zqc (rows:List (List Int))(cl:List Int)(l:Nat):List Int:=zaE (QF rows l) (QO rows cl l 64 (ZK rows.length)) (ZP (QO rows cl l 64 (ZK rows.length))) (QO rows cl l 64 (ZK rows.length)).length
theorem zl0 {rows:List (List Int)}{cl:List Int}{l:Nat}(hr:YX rows=0)(hc:Y8 rows.length cl=0):zqc rows cl l=Y3 rows cl l:=by
 have hn:=Zy hc
 have hal:=JV (n:=(rows.length:Int)) ⟨hn.1,hn.2.1⟩
 have hcs:=WV (l:=l) (rows:=rows) hc 64 (ZK rows.length) (by omega) (Xi hc)
 have hlen:(QO rows cl l 64 (ZK rows.length)).length=(QF rows l).length:=Yi
 unfold zqc
 refine zv2 (zkN (zrP rows l) _ (by omega)) zqS fun z=>?_
 rw [zbQ,zn7 hr hc,hcs,List.length_map]
 have hg:∀ i,i<(QF rows l).length→((QF rows l).map (cT (QF rows l) (uF rows l) (Kl cl 64 (ZK rows.length)))).getD i 0=cT (QF rows l) (uF rows l) (Kl cl 64 (ZK rows.length)) ((QF rows l).getD i 0):=fun i hi=>
  QN (by rw [List.getElem?_map,QX (d:=(0:Int)) rfl hi];rfl)
 constructor
 ·
  rintro ⟨i,hi,e1,e2⟩
  rw [hg i hi,e1] at e2
  exact ⟨by rw [←e1];exact List.mem_of_getElem? (QX (d:=(0:Int)) rfl hi),e2⟩
 ·
  rintro ⟨hz,e⟩
  obtain ⟨i,hi⟩:=List.getElem?_of_mem hz
  have hil:=(List.getElem?_eq_some_iff.1 hi).1
  refine ⟨i,hil,QN hi,?_⟩
  rw [hg i hil,QN hi];exact e
end
section
open Go Go.Kn Go.Proofs
theorem zs6:Fun Tryz.prog 214:=.of Tryz.func214 (by kernel_rfl) (by kernel_rfl)
theorem zqF {I:Qw}{av:Option Addr}{n c:Nat}{xs:List Int}(hS:Sl I 1 QP av n c xs)(hn:n≤100000)(x:Int):Z4 Tryz.prog 214 [.slice av n c,.int .i64 x] I [] (KD 1 QP (zdW xs x)):=by
 intro g H w hw
 refine qe Tryz.func214 Tryz.ntmps214 hw ?_
 have hIc:=zAl I
 have hlS:=hS.len
 subst hlS
 have hcap:=hS.cap
 refine zR (zA ?_)
 refine zN (zR ?_)
 refine zM ?_
 refine zQ Qt ?_
 refine zA (zN (Qk (Ql ?_)))
 refine zU [(0,_),(1,_)] (fun T L0 mz E I' loc'=>∃ (k:Nat),mz=0+k∧E=(5,.int .i64 k)::T∧I=I'∧L0=loc'∧k≤xs.length∧W9 xs x xs.length=W9 xs x k) ?_ (h:=⟨xs.length,rfl,rfl,rfl,rfl,Nat.le_refl _,rfl⟩)
 rintro mz E I' loc' ⟨k,rfl,rfl,rfl,rfl,hk,hp⟩
 refine Qk (zR (zM ?_))
 refine zC ?_
 refine zM ?_
 refine QG 2 rfl rfl rfl ?_
 refine zK (Qh rfl) ?_
 refine zK (Qh rfl) ?_
 refine zK (ZA rfl rfl rfl (fun hg=>by omega)) ?_
 refine zK (Qz rfl rfl Qt (by assumption) (fun hg=>by (simp [ZV] at hg;omega))) ?_
 refine zK (Qd rfl Qr (fun hg=>by exact zAe (k:=((k:Int)-1).toNat) hS (QX (d:=0) rfl (by simp [ZV] at hg;omega)) rfl)) ?_
 refine zK (Qh rfl) ?_
 refine zK (QI rfl rfl rfl) ?_
 refine QL rfl rfl rfl rfl rfl ?_
 refine zN ?_
 refine zI ?_ ?_<;>intro hc19
 ·
  obtain ⟨j,rfl,hpj⟩:=zmr hc19
  refine Qo (Qa (Ql (Qf (zM ?_))))
  refine zB ?_
  refine zA (Qc ?_)
  rw [show (((j+1:Nat):Int)-1)=((j:Nat):Int) by omega]
  refine Qg ?_
  exact zm (h:=⟨0+j,by omega,j,rfl,rfl,rfl,rfl,by omega,by rw [hp,hpj]⟩)
 rw [zq3 hc19] at hp
 refine QH (Qe (Qe (Qj (Qa (zR ?_)))))
 refine Qp (ps:=[]) (m:=[]) Za rfl (.nil) rfl (by simp) (by decide) (by decide) rfl rfl (fun b_22=>?_)
 refine zM ?_
 refine zM ?_
 refine zV (zbl rfl rfl Qt (fun hg=>by omega)) ?_
 refine QU (v:=_) (ys:=(xs.take k).flatMap QP) (L:=[(b_22,_)]) rfl rfl Za OwnS.new (by repeat (first | exact .cons .here .nil | exact QD | exact Qy | apply QC | apply QB)) ((hS.take hk).src Qu) (V0 _) (by omega) rfl rfl ?_
 intro v7 L7 hO7 _;rw [List.nil_append,Nat.zero_add] at hO7
 refine zA ?_
 refine zN (zR ?_)
 refine zM ?_
 refine zM ?_
 refine Qp (ps:=[(0,_)]) (m:=[QP x]) Za rfl (.cons rfl (.nil)) rfl (by simp [Qu]) (by decide) (by decide) rfl rfl (fun b_29=>?_)
 refine QU (v:=_) (ys:=[x].flatMap QP) (L:=L7) rfl rfl Za hO7 (by repeat (first | exact .cons .here .nil | exact QD | exact Qy | apply QC | apply QB)) ⟨rfl,fun _=>rfl,by repeat (first | exact zAj | apply zAi | apply zAk)⟩ (V0 [x]) (by omega) rfl rfl ?_
 intro v8 L8 hO8 _;rw [←List.flatMap_append] at hO8
 refine zA ?_
 refine zN (zR ?_)
 refine zM ?_
 refine zM ?_
 refine zM ?_
 refine zV (W6 rfl rfl Qt (fun hg=>by omega)) ?_
 refine QU (v:=_) (ys:=(xs.drop k).flatMap QP) (L:=L8) rfl rfl Za hO8 (by repeat (first | exact .cons .here .nil | exact QD | exact Qy | apply QC | apply QB)) ((hS.drop hk).src Qu) (V0 _) (by omega) rfl rfl ?_
 intro v9 L9 hO9 _;rw [←List.flatMap_append] at hO9
 refine zA (zN (Qs ?_))
 exact Zq rfl rfl (fun w hw=>by obtain ⟨I9,h91,h92,h93⟩:=OwnS.res hO9 Qu (by decide) (hw.subL (by repeat (first | exact .refl | exact Zg)));rw [show xs.take k++[x]++xs.drop k=zdW xs x by unfold zdW;rw [hp]] at h93;exact ⟨_,I9,[],rfl,hIc.trans h91,h92,h93⟩)
theorem zmq {I:Qw}{av:Option Addr}{n c:Nat}{xs:List Int}(hS:Sl I 1 QP av n c xs)(hn:n≤100000){bv:Option Addr}{n2 c2:Nat}{rows:List (List Int)}(hV:SlN I bv n2 c2 rows)(hn2:n2≤100000)(l:Nat)(hl:∀ r∈rows,l<r.length)(hc:Y8 rows.length xs=0):Z4 Tryz.prog 167 [.slice bv n2 c2,.slice av n c,.int .i64 l] I [] (KD 1 QP (zqc rows xs l)):=by
 intro g H w hw
 refine qe Tryz.func167 Tryz.ntmps167 hw ?_
 have hIc:=zAl I
 have hlV:=hV.len
 subst hlV
 have hck:=Zy hc
 have hsh:=zaa (n:=(rows.length:Int)) ⟨by omega,by omega⟩
 have hal9:=JV (n:=(rows.length:Int)) ⟨by omega,by omega⟩
 have hcl:(QO rows xs l 64 (ZK rows.length)).length=(QF rows l).length:=Yi
 have hsl:=zbo (rows:=rows) (l:=l)
 have hsp:=Uq (rows:=rows) (l:=l)
 refine zR (zA ?_)
 refine zN (zR ?_)
 refine zM ?_
 refine zM ?_
 refine QA (cap:=[]) (vs:=[_,_]) rfl rfl zeO .nil (zcw hV hn2 l hl) rfl rfl ?_
 rintro vv1 I1 L1 hI1 ⟨rfl,a9,c9,rfl,hSt⟩
 have hS:=hS.mono hI1;have hV:=hV.mono hI1;have hIc:=hIc.trans hI1
 refine zA ?_
 refine zN (zR ?_)
 refine zM ?_
 refine zM ?_
 refine zM ?_
 refine zM ?_
 refine zQ Q0 ?_
 refine zV (K6 rfl rfl (fun hg=>by omega)) ?_
 refine zB ?_
 refine QA (cap:=[]) (vs:=[_,_,_,_]) rfl rfl zcl .nil (zg3 hS hn hV hn2 l hl hc) rfl rfl ?_
 rintro vv2 I2 L2 hI2 ⟨rfl,aC,cC,rfl,hC⟩
 have hS:=hS.mono hI2;have hV:=hV.mono hI2;have hSt:=hSt.mono hI2;have hIc:=hIc.trans hI2
 refine zA ?_
 refine zN (zR ?_)
 refine zM ?_
 refine zV (Qz rfl rfl Qt (by assumption) (fun hg=>by omega)) ?_
 refine zV (Qd rfl Qr (fun hg=>by exact zAe (k:=0) hC (QX (d:=0) rfl (by omega)) rfl)) ?_
 refine zA (zN (Qk (zR ?_)))
 refine zA (zN (Ql ?_))
 refine zU [(7,_),(8,_)] (fun T L0 mz E I' loc'=>∃ (i:Nat) (b:Int),mz=(QO rows xs l 64 (ZK rows.length)).length-i∧E=(9,.int .i64 b)::(10,.int .i64 i)::T∧I2=I'∧L0=loc'∧i≤(QO rows xs l 64 (ZK rows.length)).length∧b=zcM (QO rows xs l 64 (ZK rows.length)) i) ?_ (h:=⟨0,_,rfl,rfl,rfl,rfl,Nat.zero_le _,by simp [zcM]⟩)
 rintro mz E I' loc' ⟨i,b,rfl,rfl,rfl,rfl,hi,hb⟩
 refine Qk (zR (zM ?_))
 refine zM ?_
 refine zQ Qt ?_
 refine zC (zN ?_)
 refine zI ?_ ?_<;>intro hc30
 ·
  have hlt_i:i<(QO rows xs l 64 (ZK rows.length)).length:=by have h:=hc30;simp at h;omega
  obtain ⟨y,hy⟩:=hC.at hlt_i
  refine Qo (Qa (Qk (Ql (Qf (zM ?_)))))
  refine zM ?_
  refine zM ?_
  refine zV (Qz rfl rfl Qt (by assumption) (fun hg=>by omega)) ?_
  refine zV (Qd rfl Qr (fun hg=>by exact zAe hC hy rfl)) ?_
  refine zV (zdm rfl rfl) ?_
  refine zA (Qc (Qg (Qa (Qf ?_))))
  refine zM ?_
  refine zB ?_
  refine zA (Qc ?_)
  exact zm (h:=⟨(QO rows xs l 64 (ZK rows.length)).length-(i+1),by omega,i+1,_,rfl,rfl,rfl,rfl,by omega,by rw [Wq hy,hb]⟩)
 have hge_i:(QO rows xs l 64 (ZK rows.length)).length≤i:=by have h:=hc30;simp at h;omega
 have hie:i=(QO rows xs l 64 (ZK rows.length)).length:=by omega
 rw [hie] at hb
 have hb:b=ZP (QO rows xs l 64 (ZK rows.length)):=hb
 subst hb
 refine QH (Qe (Qe (Qj (Qa (zR ?_)))))
 refine Qp (ps:=[]) (m:=[]) Za rfl (.nil) rfl (by simp) (by decide) (by decide) rfl rfl (fun b_39=>?_)
 refine zA (Qc ?_)
 refine Wx [] Ui ?_
 refine Qa (Qk (zR (zA (zN (Ql ?_)))))
 refine zU [(7,_),(8,_),(9,_)] (fun T L0 mz E I' loc'=>∃ (i:Nat) (a11:Option Addr) (n11:Nat) (c11:Nat),mz=(QO rows xs l 64 (ZK rows.length)).length-i∧E=(11,.slice a11 n11 c11)::(12,.int .i64 i)::T∧HLe I2 I'∧L0=loc'∧i≤(QO rows xs l 64 (ZK rows.length)).length∧Sl I' 1 QP a11 n11 c11 (zaE (QF rows l) (QO rows xs l 64 (ZK rows.length)) (ZP (QO rows xs l 64 (ZK rows.length))) i)) ?_ (h:=⟨0,_,0,_,rfl,rfl,zAl _,rfl,Nat.zero_le _,Sl.nil⟩)
 rintro mz E J4 loc' ⟨i,a11,n11,c11,rfl,rfl,hJ,rfl,hi,h11⟩
 have hS:=hS.mono hJ;have hV:=hV.mono hJ;have hSt:=hSt.mono hJ;have hC:=hC.mono hJ;have hIc:=hIc.trans hJ
 have hB2:=hJ
 refine Qk (zR (zM ?_))
 refine zM ?_
 refine zQ Qt ?_
 refine zC (zN ?_)
 refine zI ?_ ?_<;>intro hc43
 ·
  have hlt_i:i<(QO rows xs l 64 (ZK rows.length)).length:=by have h:=hc43;simp at h;omega
  obtain ⟨y,hy⟩:=hC.at hlt_i
  obtain ⟨x,hx⟩:=hSt.at (show i<_ by omega)
  have h11l:=h11.len
  have hrk:=zfX (st:=(QF rows l)) (cs:=(QO rows xs l 64 (ZK rows.length))) (b:=ZP (QO rows xs l 64 (ZK rows.length))) i
  refine Qo (Qa (Qk (Ql (zR (zM ?_)))))
  refine zM ?_
  refine zV (Qz rfl rfl Qt (by assumption) (fun hg=>by omega)) ?_
  refine zV (Qd rfl Qr (fun hg=>by exact zAe hC hy rfl)) ?_
  refine zM ?_
  refine zC (zN ?_)
  refine zI ?_ ?_<;>intro hc51
  ·
   have heq:y=ZP (QO rows xs l 64 (ZK rows.length)):=by simpa using hc51
   refine Qf (zM ?_)
   refine zM ?_
   refine zM ?_
   refine zV (Qz rfl rfl Qt (by assumption) (fun hg=>by omega)) ?_
   refine zV (Qd rfl Qr (fun hg=>by exact zAe hSt hx rfl)) ?_
   refine QA (cap:=[]) (vs:=[_,_]) rfl rfl zs6 .nil (zqF h11 (by omega) x) rfl rfl ?_
   rintro vv5 I5 L5 hI5 ⟨rfl,aN,cN,rfl,hN⟩
   have hB2:=hB2.trans hI5
   refine zA (Qc (Qg (Qa (Qf ?_))))
   refine zM ?_
   refine zB ?_
   refine zA (Qc ?_)
   first
   | exact zm (h:=⟨(QO rows xs l 64 (ZK rows.length)).length-(i+1),by omega,i+1,_,_,_,rfl,rfl,hB2,rfl,by omega,by rw [zn0 hx hy heq];exact hN⟩)
  have hne:y≠ZP (QO rows xs l 64 (ZK rows.length)):=by simpa using hc51
  refine Qo (Qg (Qa (Qf (zM ?_))))
  refine zB ?_
  refine zA (Qc ?_)
  first
  | exact zm (h:=⟨(QO rows xs l 64 (ZK rows.length)).length-(i+1),by omega,i+1,_,_,_,rfl,rfl,hB2,rfl,by omega,by rw [zqm hy hne];exact h11⟩)
 have hge_i:(QO rows xs l 64 (ZK rows.length)).length≤i:=by have h:=hc43;simp at h;omega
 obtain rfl:i=(QO rows xs l 64 (ZK rows.length)).length:=by omega
 have h11l:=h11.len
 subst h11l
 refine QH (Qe (Qe (Qj (Qa (zR (zM ?_))))))
 refine zA (zN (Qs ?_))
 exact Zq rfl rfl (fun w hw=>⟨_,_,[],rfl,hIc,hw.drop,rfl,a11,c11,rfl,h11⟩)
end
section
open Go Go.Kn Go.Proofs
theorem zsd:Fun Tryz.prog 166:=.of Tryz.func166 (by kernel_rfl) (by kernel_rfl)
theorem zti:Fun Tryz.prog 167:=.of Tryz.func167 (by kernel_rfl) (by kernel_rfl)
theorem znn {I:Qw}{av:Option Addr}{n c:Nat}{xs:List Int}(hS:Sl I 1 QP av n c xs)(hn:n≤100000){bv:Option Addr}{n2 c2:Nat}{rows:List (List Int)}(hVn:SlN I bv n2 c2 rows)(hn2:n2≤100000):Z4 Tryz.prog 109 [.slice bv n2 c2,.slice av n c] I [] (zoz rows xs):=by
 intro g H w hw
 refine qe Tryz.func109 Tryz.ntmps109 hw ?_
 have hIc:=zAl I
 have hlV:=hVn.len
 subst hlV
 obtain ⟨hs,hV⟩:=id hVn
 have hH:=hV.1
 refine zR (zA ?_)
 refine zA ?_
 refine zN (zR ?_)
 refine zM ?_
 refine zM ?_
 refine qc (vs:=[_,_]) rfl zsd (zth hS hn hVn hn2) ?_
 refine zM ?_
 refine zE ?_
 refine zE ?_
 refine zA ?_
 refine zA (zN (Qk (zR ?_)))
 refine zM ?_
 refine zC (zN ?_)
 refine zI ?_ ?_<;>intro hc17
 ·
  have hcE:Yk rows xs≠0:=by simpa using hc17
  refine zR (zM ?_)
  refine zA ?_
  refine zA (zN (Qs (Qb ?_)))
  first
  | exact Zr rfl rfl rfl (fun w hw=>⟨_,_,[],rfl,hIc,hw.drop,rfl,none,0,by rw [Wf hcE];rfl,by rw [Wf hcE];exact .none⟩)
 have hcE:Yk rows xs=0:=by simpa using hc17
 have hr0:=KS hcE
 have hc0:Y8 rows.length xs=0:=by have h:=hcE;unfold Yk at h;rw [if_neg (by omega)] at h;exact h
 obtain ⟨hr1,hr6,hr64,hrr⟩:=JE hr0
 obtain ⟨x0,v0,hx0,hv0,hQ0⟩:=hV.at (k:=0) (by omega)
 have hx0l:=hQ0.len
 have hg0:rows.getD 0 []=v0:=QN hv0
 rw [hg0] at hr64 hrr
 refine Qo (Qa (zR ?_))
 refine Qp (ps:=[]) (m:=[]) UU rfl (.nil) rfl (by simp) (by decide) (by decide) rfl rfl (fun b_19=>?_)
 refine zA (zN (Qk (zR ?_)))
 refine zA (zN (Ql ?_))
 refine zU [(0,_),(1,_)] (fun T L0 mz E I' loc'=>∃ (k:Nat) (v8:Value) (os:List Hd) (L:Go.Kn.Loc),mz=x0.n-k∧E=(8,v8)::(9,.int .i64 k)::T∧HLe I I'∧L=loc'∧k≤x0.n∧OwnS 23 1 v8 k (os.flatMap WL) L∧zcp I' os ((List.range k).map (Y3 rows xs))) ?_ (h:=⟨0,_,[],[(b_19,_)],rfl,rfl,zAl _,rfl,Nat.zero_le _,OwnS.new,zcp.nil⟩)
 rintro mz E J1 loc' ⟨k,v8,os,L,rfl,rfl,hJ,rfl,hk,hO8,hre⟩
 have hS:=hS.mono hJ;have hVn:=hVn.mono hJ;have hH:=hH.mono hJ;have hIc:=hIc.trans hJ
 have hB0:=hJ
 obtain ⟨va8,vc8,rfl⟩:=zaS hO8
 refine Qk (zR (zM ?_))
 refine zM ?_
 refine zV (zX Q0 hH) ?_
 refine zV (Qd rfl QJ (fun hg=>by exact zAe (k:=0) hH hx0 rfl)) ?_
 refine zQ Qt ?_
 refine zC (zN ?_)
 refine zI ?_ ?_<;>intro hc25
 ·
  have hlt_k:k<x0.n:=by have h:=hc25;simp at h;omega
  refine Qo (Qa (Qk (Ql (Qf (zM ?_)))))
  refine zM ?_
  refine zM ?_
  refine zM ?_
  refine QA (cap:=[]) (vs:=[_,_,_]) rfl rfl zti .nil (zmq hS hn hVn hn2 k (fun r hr=>by rw [(hrr r hr).1];omega) hc0) rfl rfl ?_
  rintro vv2 I2 L2 hI2 ⟨rfl,aR,cR,rfl,hR⟩
  have hre:=hre.mono hI2;have hB0:=hB0.trans hI2
  rw [zl0 hr0 hc0] at hR ⊢
  refine Qp (ps:=[(0,_)]) (m:=[WL ⟨aR,(Y3 rows xs k).length,cR⟩]) UU rfl (.cons rfl (.nil)) rfl (by simp [Zb]) (by decide) (by decide) rfl rfl (fun b_33=>?_)
  refine QU (v:=_) (ys:=[(⟨aR,(Y3 rows xs k).length,cR⟩:Hd)].flatMap WL) (L:=L) rfl rfl UU hO8 (by repeat (first | exact .cons .here .nil | exact QD | exact Qy | apply QC | apply QB)) ⟨rfl,fun _=>rfl,by repeat (first | exact zAj | apply zAi | apply zAk)⟩ (zqD _) (by omega) rfl rfl ?_
  intro v9 L9 hO9 _;rw [←List.flatMap_append] at hO9
  refine zA (Qc (Qg (Qa (Qf ?_))))
  refine zM ?_
  refine zB ?_
  refine zA (Qc ?_)
  exact zm (h:=⟨x0.n-(k+1),by omega,k+1,_,_,_,rfl,rfl,hB0,rfl,by omega,hO9,by rw [KN];exact hre.snoc (hd:=⟨aR,(Y3 rows xs k).length,cR⟩) hR⟩)
 have hge_k:x0.n≤k:=by have h:=hc25;simp at h;omega
 obtain rfl:k=x0.n:=by omega
 refine QH (Qe (Qe (Qj (Qa (zR (zM ?_))))))
 refine zA ?_
 refine zA (zN (Qs ?_))
 first
 | exact Zr rfl rfl rfl (fun w hw=>by obtain ⟨I9,av9,c9,h1',h2',e9,h4'⟩:=OwnS.freeze (R:=[]) hO8 Zb (by decide) (by rw [List.append_nil];exact hw);cases e9;exact ⟨_,I9,[],rfl,hIc.trans h1',h2',rfl,va8,vc8,by rw [Uh hcE,List.length_map,List.length_range,hg0,hx0l,hcE],by rw [Uh hcE,List.length_map,List.length_range,hg0,hx0l];exact ⟨os,h4',hre.mono h1'⟩⟩)
end
section
open Go Go.Kn Go.Proofs
theorem zff:∀ (ds:List Dg) (c:Int),(Y2 c ds).isSome=ds.all fun d=> !zcO d
 | [],_=>rfl
 | d::ds,c=>by
  rw [List.all_cons]
  show (if zcO d=true then none else Y2 (zlG c d) ds).isSome=_
  cases h:zcO d
  ·
   rw [if_neg (by simp),zff ds];rfl
  ·
   rw [if_pos rfl];rfl
def inR (x:Sg):Bool:= !((((((!ZO x.role 0 63|| !ZO x.kind 1 9)|| !ZO x.side 0 2)|| !ZO x.dir 0 8)|| !ZO x.level 0 3)|| !ZO x.size 0 255)|| !ZO x.wth 0 64)
theorem zhn (n lo hi b:Int):(!zcO ⟨n,lo,hi,b⟩)=ZO n lo hi:=by
 unfold zcO ZO
 rw [Bool.eq_iff_iff];simp
theorem zgR (x:Sg):(Y2 0 (dgs x)).isSome=inR x:=by
 rw [zff]
 unfold dgs inR
 simp only [List.all_cons,List.all_nil,zhn]
 cases ZO x.role 0 63<;>cases ZO x.kind 1 9<;>cases ZO x.side 0 2<;>cases ZO x.dir 0 8<;>cases ZO x.level 0 3<;>cases ZO x.size 0 255<;>cases ZO x.wth 0 64<;>rfl
def zpu (x:Sg):Int:=(((((x.role*16+x.kind)*4+x.side)*16+x.dir)*4+x.level)*256+x.size)*128+x.wth
theorem zdQ {x:Sg}(h:inR x=true):zay x=zpu x∧JM x=0:=by
 obtain ⟨r,k,s,d,l,z,w,hd,e⟩:=zoZ (by rw [zgR];exact h)
 obtain ⟨h1,h2⟩:=zfZ hd e
 refine ⟨?_,h2⟩
 obtain ⟨e1,e2,e3,e4,e5,e6,e7⟩:=e
 rw [h1];unfold zpu zhC
 rw [e1,e2,e3,e4,e5,e6,e7]
 omega
theorem zgY {x:Sg}(h:inR x=false):zay x=0∧JM x=410:=zkZ (by rw [zgR];exact h)
theorem zvB {x:Sg}(h:inR x=true):(0≤x.role∧x.role≤63)∧(1≤x.kind∧x.kind≤9)∧(0≤x.side∧x.side≤2)∧(0≤x.dir∧x.dir≤8)∧(0≤x.level∧x.level≤3)∧(0≤x.size∧x.size≤255)∧(0≤x.wth∧x.wth≤64):=by
 unfold inR ZO at h
 simp only [Bool.not_eq_true',Bool.or_eq_false_iff,Bool.not_eq_false',Bool.and_eq_true,decide_eq_true_eq] at h
 omega
def znl (c:Int):Sg:=⟨0,IntKind.i64.wrap (c.tdiv 134217728),0,0,(IntKind.i64.wrap (c.tdiv 8388608)).tmod 16,(IntKind.i64.wrap (c.tdiv 2097152)).tmod 4,(IntKind.i64.wrap (c.tdiv 131072)).tmod 16,(IntKind.i64.wrap (c.tdiv 32768)).tmod 4,(IntKind.i64.wrap (c.tdiv 128)).tmod 256,c.tmod 128,0,0,0,0⟩
theorem zry {c d:Nat}(hc:c<8589934592):IntKind.i64.wrap ((c:Int).tdiv (d:Int))=((c / d:Nat):Int):=by
 have h:(c:Int).tdiv (d:Int)=((c / d:Nat):Int):=by rw [Int.tdiv_eq_ediv_of_nonneg (by omega)];rfl
 rw [h,X7]
 have:=Nat.div_le_self c d
 generalize c / d=q at*
 omega
theorem zjY {c d:Nat}:((c:Int).tmod (d:Int))=((c % d:Nat):Int):=by rw [Int.tmod_eq_emod_of_nonneg (by omega)];rfl
theorem zk8 {c:Int}(h0:0≤c)(h:c<8589934592):znl c=zjL c:=by
 obtain ⟨n,rfl⟩:∃ n:Nat,c=n:=⟨c.toNat,by omega⟩
 have hn:n<8589934592:=by omega
 rw [zfx n (by omega)]
 unfold znl
 have q:=fun d:Nat=>zry (d:=d) hn
 have g:=fun d m:Nat=>show (IntKind.i64.wrap ((n:Int).tdiv (d:Int))).tmod (m:Int)=((n / d % m:Nat):Int) by rw [q d,zjY]
 rw [show IntKind.i64.wrap ((n:Int).tdiv 134217728)=_ from q 134217728,show (IntKind.i64.wrap ((n:Int).tdiv 8388608)).tmod 16=_ from g 8388608 16,show (IntKind.i64.wrap ((n:Int).tdiv 2097152)).tmod 4=_ from g 2097152 4,
  show (IntKind.i64.wrap ((n:Int).tdiv 131072)).tmod 16=_ from g 131072 16,show (IntKind.i64.wrap ((n:Int).tdiv 32768)).tmod 4=_ from g 32768 4,show (IntKind.i64.wrap ((n:Int).tdiv 128)).tmod 256=_ from g 128 256,show (n:Int).tmod 128=_ from zjY (c:=n) (d:=128)]
 simp only [Nat.div_div_eq_div_mul]
theorem zdM {c:Int}(h:c<0∨8589934592≤c):Jo c=410∧Uo c=zhL:=by
 have hne:Jo c≠0:=fun e=>by have:=ziI e;omega
 refine ⟨?_,by unfold Uo;rw [if_pos hne]⟩
 unfold Jo JM at*
 split
 ·
  rename_i h2;rw [if_pos h2] at hne;exact absurd rfl hne
 ·
  rfl
theorem zdg {c:Int}(h0:0≤c)(h:c<8589934592)(hb:JM (znl c)≠0):Jo c=JM (znl c)∧Uo c=zhL:=by
 rw [zk8 h0 h] at hb ⊢
 exact ⟨rfl,by unfold Uo;rw [if_pos (show Jo c≠0 from hb)]⟩
theorem zft {c:Int}(h0:0≤c)(h:c<8589934592)(hb:JM (znl c)=0):Jo c=0∧Uo c=znl c:=by
 rw [zk8 h0 h] at hb ⊢
 exact ⟨hb,by unfold Uo;rw [if_neg (by rw [show Jo c=0 from hb];decide)]⟩
end
section
open Go Go.Kn Go.Proofs
theorem zqZ:Fun Tryz.prog 178:=.of Tryz.func178 (by kernel_rfl) (by kernel_rfl)
theorem UG:Fun Tryz.prog 216:=.of Tryz.func216 (by kernel_rfl) (by kernel_rfl)
theorem zsK:Fun Tryz.prog 218:=.of Tryz.func218 (by kernel_rfl) (by kernel_rfl)
theorem Kx (I:Qw)(n lo hi:Int):Zu Tryz.prog 216 [.int .i64 n,.int .i64 lo,.int .i64 hi] I (.bool (ZO n lo hi)):=by
 intro g H w hw
 refine qe Tryz.func216 Tryz.ntmps216 hw ?_
 refine zR (zA ?_)
 refine zN (zR ?_)
 refine zM ?_
 refine zM ?_
 refine zC ?_
 refine zM ?_
 refine QG 3 rfl rfl rfl ?_
 refine zK (Qh rfl) ?_
 refine zK (Qh rfl) ?_
 refine zK (QI rfl rfl rfl) ?_
 refine QL rfl rfl rfl rfl rfl ?_
 refine zA (zN (Qs ?_))
 exact zr rfl rfl (by rfl)
theorem zuW (I:Qw)(x:Sg):Zu Tryz.prog 218 [J0 x] I (.tuple #[.int .i64 (zay x),.int .i64 (JM x)]):=by
 intro g H w hw
 refine qe Tryz.func218 Tryz.ntmps218 hw ?_
 refine zR ?_
 refine Q9 rfl rfl rfl (fun b_1=>?_)
 refine zA ?_
 refine zA (zN (Qk (zR ?_)))
 refine zF Jm ?_
 refine zL Qr ?_
 refine qc (vs:=[_,_,_]) rfl UG (Kx I _ _ _) ?_
 refine zO ?_
 refine zM ?_
 refine QV 4 rfl rfl rfl ?_
 refine zJ (Qi rfl Ub) ?_
 refine zJ (Qd rfl Qr (fun hg=>by exact QY.h0 rfl)) ?_
 refine qf (vs:=[_,_,_]) rfl UG (fun hg=>Kx I _ _ _) ?_
 refine zJ (Yw rfl) ?_
 refine Zs rfl rfl rfl rfl rfl ?_
 refine zM ?_
 refine QV 10 rfl rfl rfl ?_
 refine zJ (Qi rfl Jq) ?_
 refine zJ (Qd rfl Qr (fun hg=>by exact QY.h0 rfl)) ?_
 refine qf (vs:=[_,_,_]) rfl UG (fun hg=>Kx I _ _ _) ?_
 refine zJ (Yw rfl) ?_
 refine Zs rfl rfl rfl rfl rfl ?_
 refine zM ?_
 refine QV 16 rfl rfl rfl ?_
 refine zJ (Qi rfl Jh) ?_
 refine zJ (Qd rfl Qr (fun hg=>by exact QY.h0 rfl)) ?_
 refine qf (vs:=[_,_,_]) rfl UG (fun hg=>Kx I _ _ _) ?_
 refine zJ (Yw rfl) ?_
 refine Zs rfl rfl rfl rfl rfl ?_
 refine zM ?_
 refine QV 22 rfl rfl rfl ?_
 refine zJ (Qi rfl Ju) ?_
 refine zJ (Qd rfl Qr (fun hg=>by exact QY.h0 rfl)) ?_
 refine qf (vs:=[_,_,_]) rfl UG (fun hg=>Kx I _ _ _) ?_
 refine zJ (Yw rfl) ?_
 refine Zs rfl rfl rfl rfl rfl ?_
 refine zM ?_
 refine QV 28 rfl rfl rfl ?_
 refine zJ (Qi rfl Jk) ?_
 refine zJ (Qd rfl Qr (fun hg=>by exact QY.h0 rfl)) ?_
 refine qf (vs:=[_,_,_]) rfl UG (fun hg=>Kx I _ _ _) ?_
 refine zJ (Yw rfl) ?_
 refine Zs rfl rfl rfl rfl rfl ?_
 refine zM ?_
 refine QV 34 rfl rfl rfl ?_
 refine zJ (Qi rfl Jg) ?_
 refine zJ (Qd rfl Qr (fun hg=>by exact QY.h0 rfl)) ?_
 refine qf (vs:=[_,_,_]) rfl UG (fun hg=>Kx I _ _ _) ?_
 refine zJ (Yw rfl) ?_
 refine Zs rfl rfl rfl rfl rfl ?_
 refine zN ?_
 refine zI ?_ ?_<;>intro hc43
 ·
  have hb:inR x=false:=by unfold inR;exact congrArg (! ·) hc43
  refine zR (zA ?_)
  refine zA (zN (Qs (Qb ?_)))
  exact Zr rfl rfl rfl (fun w hw=>⟨by rw [(zgY hb).1,(zgY hb).2],hw.drop⟩)
 have hb:inR x=true:=by unfold inR;exact congrArg (! ·) hc43
 obtain ⟨hn1,hn2,hn3,hn4,hn5,hn6,hn7⟩:=zvB hb
 refine Qo (Qa (zR ?_))
 refine zF Jm ?_
 refine zL Qr ?_
 refine zB ?_
 refine zF Ub ?_
 refine zL Qr ?_
 refine zB ?_
 refine zB ?_
 refine zF Jq ?_
 refine zL Qr ?_
 refine zB ?_
 refine zB ?_
 refine zF Jh ?_
 refine zL Qr ?_
 refine zB ?_
 refine zB ?_
 refine zF Ju ?_
 refine zL Qr ?_
 refine zB ?_
 refine zB ?_
 refine zF Jk ?_
 refine zL Qr ?_
 refine zB ?_
 refine zB ?_
 refine zF Jg ?_
 refine zL Qr ?_
 refine zB ?_
 refine zA ?_
 refine zA (zN (Qs ?_))
 first
 | exact Zr rfl rfl rfl (fun w hw=>⟨by rw [(zdQ hb).1,(zdQ hb).2];rfl,hw.drop⟩)
theorem zwV (I:Qw)(c:Int):Zu Tryz.prog 178 [.int .i64 c] I (.tuple #[J0 (Uo c),.int .i64 (Jo c)]):=by
 intro g H w hw
 refine qe Tryz.func178 Tryz.ntmps178 hw ?_
 refine zR ?_
 refine Qv Wg rfl rfl (fun b_2=>?_)
 refine zA (zN (Qk (zR ?_)))
 refine zM ?_
 refine zC ?_
 refine zM ?_
 refine QV 2 rfl rfl rfl ?_
 refine zJ (Qh rfl) ?_
 refine zJ (QI rfl rfl rfl) ?_
 refine Zs rfl rfl rfl rfl rfl ?_
 refine zN ?_
 refine zI ?_ ?_<;>intro hc12
 ·
  have ho:c<0∨8589934592≤c:=by simpa using hc12
  have k1:=(zdM ho).2
  have he9:=(zdM ho).1
  refine zR ?_
  refine zV (QQ (ps:=[]) [_,_,_,_,_,_,_,_,_,_,_,_,_,_] KA rfl rfl) ?_
  refine zh Y5 ?_
  refine zA (zN (Qs (Qb ?_)))
  exact Zp rfl rfl rfl ZI (by repeat (first | exact zAj | apply zAi)) rfl (fun w hw=>⟨by rw [k1,he9];rfl,hw.drop⟩)
 have hci:0≤c∧c<8589934592:=by have h:=hc12;simp at h;omega
 refine Qo (Qa (zR (zM ?_)))
 refine zV (ZL rfl rfl (fun hg=>by decide)) ?_
 refine zM ?_
 refine zV (zbk rfl rfl (fun hg=>by decide)) ?_
 refine zV (ZL rfl rfl (fun hg=>by decide)) ?_
 refine zM ?_
 refine zV (zbk rfl rfl (fun hg=>by decide)) ?_
 refine zV (ZL rfl rfl (fun hg=>by decide)) ?_
 refine zM ?_
 refine zV (zbk rfl rfl (fun hg=>by decide)) ?_
 refine zV (ZL rfl rfl (fun hg=>by decide)) ?_
 refine zM ?_
 refine zV (zbk rfl rfl (fun hg=>by decide)) ?_
 refine zV (ZL rfl rfl (fun hg=>by decide)) ?_
 refine zM ?_
 refine zV (zbk rfl rfl (fun hg=>by decide)) ?_
 refine zV (ZL rfl rfl (fun hg=>by decide)) ?_
 refine zM ?_
 refine zV (zbk rfl rfl (fun hg=>by decide)) ?_
 refine zV (QQ (ps:=[(9,_),(8,_),(7,_),(6,_),(5,_),(4,_),(1,_)]) [_,_,_,_,_,_,_,_,_,_,_,_,_,_] KA rfl rfl) ?_
 refine Qv Wg rfl rfl (fun b_4=>?_)
 refine zh Y5 ?_
 refine zN (zR ?_)
 refine zV (Qq rfl ZI (fun hg=>by exact Cells.g0) rfl) ?_
 refine qc (vs:=[_]) rfl zsK (zuW I (znl c)) ?_
 refine zM ?_
 refine zE ?_
 refine zE ?_
 refine zA ?_
 refine zA (zN (Qk (zR ?_)))
 refine zM ?_
 refine zC (zN ?_)
 refine zI ?_ ?_<;>intro hc40
 ·
  have he:JM (znl c)≠0:=by simpa using hc40
  have k1:=(zdg hci.1 hci.2 he).2
  have he9:=(zdg hci.1 hci.2 he).1
  refine zR ?_
  refine zV (QQ (ps:=[]) [_,_,_,_,_,_,_,_,_,_,_,_,_,_] KA rfl rfl) ?_
  refine zM ?_
  refine zh Y5 ?_
  refine zA (zN (Qs (Qb ?_)))
  exact Zp rfl rfl rfl ZI (by repeat (first | exact zAj | apply zAi)) rfl (fun w hw=>⟨by rw [k1,he9];rfl,hw.drop⟩)
 have he:JM (znl c)=0:=by simpa using hc40
 have k1:=(zft hci.1 hci.2 he).2
 have he9:=(zft hci.1 hci.2 he).1
 refine Qo (Qa (zR ?_))
 refine zV (Qq rfl ZI (fun hg=>by exact Cells.g0) rfl) ?_
 refine zh Y5 ?_
 refine zA (zN (Qs ?_))
 exact Zp rfl rfl rfl ZI (by repeat (first | exact zAj | apply zAi)) rfl (fun w hw=>⟨by rw [k1,he9];rfl,hw.drop⟩)
end
section
open Go Go.Kn Go.Proofs
theorem zun:Fun Tryz.prog 66:=.of Tryz.func66 (by kernel_rfl) (by kernel_rfl)
theorem zr5 {I:Qw}{av:Option Addr}{n c:Nat}{xs:List Int}(hS:Sl I 1 QP av n c xs){bv:Option Addr}{n2 c2:Nat}{ys:List Int}(hT:Sl I 1 QP bv n2 c2 ys)(hn:n≤100000):Zu Tryz.prog 66 [.slice av n c,.slice bv n2 c2] I (.bool (decide (xs=ys))):=by
 intro g H w hw
 refine qe Tryz.func66 Tryz.ntmps66 hw ?_
 have hl1:=hS.len
 have hl2:=hT.len
 refine zR (zA (zN (Qk (zR ?_))))
 refine zM ?_
 refine zQ Qt ?_
 refine zM ?_
 refine zQ Qt ?_
 refine zC (zN ?_)
 refine zI ?_ ?_<;>intro hc10
 ·
  have hne:xs≠ys:=fun e=>by have h:=hc10;subst e;simp at h;omega
  refine zR (zA (zN (Qs (Qb ?_))))
  exact zr rfl rfl (by rw [decide_eq_false hne])
 have hnn:n=n2:=by have h:=hc10;simp at h;omega
 refine Qo (Qa (Qk (zR (zA (zN (Ql ?_))))))
 refine zU [(0,_),(1,_)] (fun T L0 mz E I' loc'=>∃ (k:Nat),mz=n-k∧E=(5,.int .i64 k)::T∧I=I'∧L0=loc'∧k≤n∧xs.take k=ys.take k) ?_ (h:=⟨0,rfl,rfl,rfl,rfl,Nat.zero_le _,rfl⟩)
 rintro mz E I' loc' ⟨k,rfl,rfl,rfl,rfl,hk,hall⟩
 refine Qk (zR (zM ?_))
 refine zM ?_
 refine zQ Qt ?_
 refine zC (zN ?_)
 refine zI ?_ ?_<;>intro hc14
 ·
  have hlt_k:k<n:=by have h:=hc14;simp at h;omega
  obtain ⟨x,hx⟩:=hS.at hlt_k
  obtain ⟨y,hy⟩:=hT.at (show k<n2 by omega)
  refine Qo (Qa (Qk (Ql (Qk ?_))))
  refine Yq mixed (by kernel_rfl) ?_
  refine zq (Qh rfl) ?_
  refine zq (Qh rfl) ?_
  refine zq (zX Qt hS) ?_
  refine zq (Qd rfl Qr (fun hg=>by exact zAe hS hx rfl)) ?_
  refine zq (Qh rfl) ?_
  refine zq (Qh rfl) ?_
  refine zq (zX Qt hT) ?_
  refine zq (Qd rfl Qr (fun hg=>by exact zAe hT hy rfl)) ?_
  refine zq (QI rfl rfl rfl) ?_
  refine Yp ?_
  refine Qa ?_
  refine zI ?_ ?_<;>intro hc25
  ·
   have hne:xs≠ys:=fun e=>by subst e;rw [hx] at hy;cases hy;simp at hc25
   refine zR (zA (zN (Qs (Qm (Qb (Qb (Qm ?_)))))))
   refine Qb ?_
   exact zr rfl rfl (by rw [decide_eq_false hne])
  have hxy:x=y:=by simpa using hc25
  refine Qo (Qg (Qa (Qf (zM ?_))))
  refine zB ?_
  refine zA (Qc ?_)
  exact zm (h:=⟨n-(k+1),by omega,k+1,rfl,rfl,rfl,rfl,by omega,by rw [List.take_add_one,List.take_add_one,hall,hx,hy,hxy]⟩)
 have hge_k:n≤k:=by have h:=hc14;simp at h;omega
 have heq:xs=ys:=by rw [List.take_of_length_le (by omega),List.take_of_length_le (by omega)] at hall;exact hall
 refine QH (Qe (Qe (Qj (Qa (zR (zA (zN ?_)))))))
 refine Qs ?_
 exact zr rfl rfl (by rw [decide_eq_true heq])
end
section
open Go Go.Kn Go.Proofs
theorem zzG {lo l pv:Int}{m k:Nat}(h:k=0∧l= -1∨0<k∧0≤l∧pv=l):((decide (lo<0)||decide (lo≥(m:Int)))||(decide ((k:Int)>0)&&decide (lo≤pv)))=(decide (lo≤l)||decide (lo≥(m:Int))):=by
 rw [Bool.eq_iff_iff]
 simp only [Bool.or_eq_true,Bool.and_eq_true,decide_eq_true_eq]
 omega
theorem zeX {rows:List (List Int)}{m:Nat}{l:Int}{e:Em}:zbA rows m l e=((decide (e.locus≤l)||decide (e.locus≥(m:Int)))|| !rsF e.reason e.code (zbf rows e)):=by unfold zbA;rw [Bool.or_assoc]
theorem zz7 {r c:Int}{b:Bool}(h:r=1):rsF r c b=((b&&c != 0)&&c != 8589934592):=by unfold rsF;rw [if_pos h];rfl
theorem zz4 {r c:Int}{b:Bool}(h1:¬r=1)(h:r=2):rsF r c b=(!b&&Jo c==0):=by unfold rsF;rw [if_neg h1,if_pos h];unfold r2F;rw [Bool.and_comm]
theorem zzV {r c:Int}{b:Bool}(h1:¬r=1)(h2:¬r=2)(h:r=3):rsF r c b=(c==0):=by unfold rsF;rw [if_neg h1,if_neg h2,if_pos h];rfl
theorem zz1 {r c:Int}{b:Bool}(h1:¬r=1)(h2:¬r=2)(h:¬r=3):rsF r c b=false:=by unfold rsF;rw [if_neg h1,if_neg h2,if_neg h]
theorem zgM (xs:List Int)(v:Int):(xs.any fun y=>y==v)=xs.any fun y=>v==y:=by
 congr 1;funext y
 by_cases h:y=v
 ·
  subst h;rfl
 ·
  rw [beq_false_of_ne h,beq_false_of_ne (Ne.symm h)]
def emF (k:Nat)(n:Int)(e:Em):Int:=if e.locus=(k:Int) then e.code else n
theorem XI {k:Nat}:∀ {es:List Em} {n:Int},(∀ e∈es,¬e.locus=(k:Int))→es.foldl (emF k) n=n
 | [],_,_=>rfl
 | e::es,n,h=>by
  rw [List.foldl_cons,show emF k n e=n from if_neg (h e (List.mem_cons_self ..))]
  exact XI fun x hx=>h x (List.mem_cons_of_mem _ hx)
theorem zoH {m:Nat}:∀ {l:Int} {es:List Em},zt5 m l es→∀ e∈es,l<e.locus
 | l,e::es,⟨h1,h2,h3⟩,x,hx=>by
  rcases List.mem_cons.1 hx with rfl | hx
  ·
   exact h1
  ·
   have:=zoH h3 x hx;omega
theorem ziq {rows:List (List Int)}{cl:List Int}{es:List Em}{k:Nat}(h:JZ rows (rows.getD 0 []).length (-1) es=true):es.foldl (emF k) (JN rows cl k)=UP rows cl es k:=by
 obtain ⟨pre,e1,h1,h2,h3⟩:=zjT k (zgX h)
 have h0:es.foldl (emF k) (JN rows cl k)=(lfK es k).foldl (emF k) (JN rows cl k):=by
  conv=>lhs;rw [e1]
  rw [List.foldl_append,XI (es:=pre) fun e he=>by have:=h1 e he;omega]
 rw [h0]
 cases hl:lfK es k with
 | nil=>rw [zpS hl];rfl
 | cons e r=>
  rw [hl] at h3
  have hr:∀ x∈r,¬x.locus=(k:Int):=fun x hx=>by have h4:=zoH h3.2.2 x hx;have h5:=h2 e (by rw [hl];exact List.mem_cons_self ..);omega
  rw [List.foldl_cons]
  by_cases he:e.locus=(k:Int)
  ·
   rw [show emF k (JN rows cl k) e=e.code from if_pos he,XI hr,zo9 hl he]
  ·
   rw [show emF k (JN rows cl k) e=JN rows cl k from if_neg he,XI hr,zwA hl he]
theorem zk6 {k j:Nat}{es:List Em}{n:Int}{e:Em}(h:es[j]? =some e):(es.take (j+1)).foldl (emF k) n=emF k ((es.take j).foldl (emF k) n) e:=by
 rw [List.take_add_one,h,List.foldl_append];rfl
end
section
open Go Go.Kn Go.Proofs
theorem zrF:Fun Tryz.prog 168:=.of Tryz.func168 (by kernel_rfl) (by kernel_rfl)
theorem zr7:Fun Tryz.prog 215:=.of Tryz.func215 (by kernel_rfl) (by kernel_rfl)
theorem zqo {I:Qw}{bv:Option Addr}{n2 c2:Nat}{rows:List (List Int)}(hV:SlN I bv n2 c2 rows)(hn2:n2≤100000)(l v:Int)(h0:0≤l)(hl:∀ r∈rows,l.toNat<r.length):Zu Tryz.prog 215 [.slice bv n2 c2,.int .i64 l,.int .i64 v] I (.bool (rows.any fun r=>r.getD l.toNat 0==v)):=by
 intro g H w hw
 refine qe Tryz.func215 Tryz.ntmps215 hw ?_
 have hVl:=hV.len
 obtain ⟨hs,hVH⟩:=id hV
 have hHH:=hVH.1
 refine zR (zA (zN (Qk (zR ?_))))
 refine zA (zN (Ql ?_))
 refine zU [(0,_),(1,_),(2,_)] (fun T L0 mz E I' loc'=>∃ (k:Nat),mz=n2-k∧E=(7,.int .i64 k)::T∧I=I'∧L0=loc'∧k≤n2∧(rows.take k).any (fun r=>r.getD l.toNat 0==v)=false) ?_ (h:=⟨0,rfl,rfl,rfl,rfl,Nat.zero_le _,rfl⟩)
 rintro mz E I' loc' ⟨k,rfl,rfl,rfl,rfl,hk,hno⟩
 refine Qk (zR (zM ?_))
 refine zM ?_
 refine zQ Q0 ?_
 refine zC (zN ?_)
 refine zI ?_ ?_<;>intro hc11
 ·
  have hlt_k:k<n2:=by have h:=hc11;simp at h;omega
  obtain ⟨h1,r1,hh,hr,hQ⟩:=hVH.at hlt_k
  have hQl:=hQ.len
  have hlr:=hl r1 (List.mem_of_getElem? hr)
  refine Qo (Qa (Qk (Ql (zR (zM ?_)))))
  refine zM ?_
  refine zV (zX Q0 hHH) ?_
  refine zV (Qd rfl QJ (fun hg=>by exact zAe hHH hh rfl)) ?_
  refine zM ?_
  refine zV (zX Qt hQ) ?_
  refine zV (Qd rfl Qr (fun hg=>by exact zAe (k:=l.toNat) hQ (QX (d:=0) rfl hlr) rfl)) ?_
  refine zM ?_
  refine zC (zN ?_)
  refine zI ?_ ?_<;>intro hc22
  ·
   refine zR (zA (zN (Qs (Qm (Qb (Qb (Qm ?_)))))))
   refine Qb ?_
   exact zr rfl rfl (by rw [YM hr hc22])
  refine Qo (Qg (Qa (Qf (zM ?_))))
  refine zB ?_
  refine zA (Qc ?_)
  exact zm (h:=⟨n2-(k+1),by omega,k+1,rfl,rfl,rfl,rfl,by omega,Ym hr hno hc22⟩)
 have hge_k:n2≤k:=by have h:=hc11;simp at h;omega
 rw [Zo hVl hge_k] at hno
 refine QH (Qe (Qe (Qj (Qa (zR (zA (zN ?_)))))))
 refine Qs ?_
 exact zr rfl rfl (by rw [hno])
theorem ztB {I:Qw}{bv:Option Addr}{n2 c2:Nat}{rows:List (List Int)}(hV:SlN I bv n2 c2 rows)(hn2:n2≤100000)(e:Em)(h0:0≤e.locus)(hl:∀ r∈rows,e.locus.toNat<r.length):Zu Tryz.prog 168 [.slice bv n2 c2,.agg (Yo e).toArray] I (.bool (rsF e.reason e.code (zbf rows e))):=by
 intro g H w hw
 refine qe Tryz.func168 Tryz.ntmps168 hw ?_
 refine zR ?_
 refine Q9 rfl rfl rfl (fun b_3=>?_)
 refine zA ?_
 refine zN (zR ?_)
 refine zM ?_
 refine zF Ys ?_
 refine zL Qr ?_
 refine zF Jl ?_
 refine zL Qr ?_
 refine qc (vs:=[_,_,_]) rfl zr7 (zqo hV hn2 e.locus e.code h0 hl) ?_
 refine zA (zN (Qk (zR ?_)))
 refine zF XB ?_
 refine zL Qr ?_
 refine zN (Ql (zR (zC ?_)))
 refine zA (zN ?_)
 refine zI ?_ ?_<;>intro hc16
 ·
  have hr1:e.reason=1:=by simpa using hc16
  refine zR (zM ?_)
  refine zM ?_
  refine QG 1 rfl rfl rfl ?_
  refine zK (Qi rfl Jl) ?_
  refine zK (Qd rfl Qr (fun hg=>by exact QY.h0 rfl)) ?_
  refine zK (QI rfl rfl rfl) ?_
  refine QL rfl rfl rfl rfl rfl ?_
  refine zM ?_
  refine QG 6 rfl rfl rfl ?_
  refine zK (Qi rfl Jl) ?_
  refine zK (Qd rfl Qr (fun hg=>by exact QY.h0 rfl)) ?_
  refine zK (QI rfl rfl rfl) ?_
  refine QL rfl rfl rfl rfl rfl ?_
  refine zA (zN (Qs (Qm (Qb ?_))))
  first
  | exact zr rfl rfl (by rw [zz7 hr1];rfl)
 have hr1:¬e.reason=1:=by simpa using hc16
 refine zR (zC ?_)
 refine zA (zN ?_)
 refine zI ?_ ?_<;>intro hc29
 ·
  have hr2:e.reason=2:=by simpa using hc29
  refine zR ?_
  refine zF Jl ?_
  refine zL Qr ?_
  refine qc (vs:=[_]) rfl zqZ (zwV I e.code) ?_
  refine zM ?_
  refine zE ?_
  refine zE ?_
  refine Qv Wg rfl rfl (fun b_6=>?_)
  refine zh Y5 ?_
  refine zA ?_
  refine zN (zR ?_)
  refine zM ?_
  refine zO ?_
  refine zM ?_
  refine QG 2 rfl rfl rfl ?_
  refine zK (Qh rfl) ?_
  refine zK (QI rfl rfl rfl) ?_
  refine QL rfl rfl rfl rfl rfl ?_
  refine zA (zN (Qs (Qm (Qb ?_))))
  first
  | exact zr rfl rfl (by rw [zz4 hr1 hr2];rfl)
 have hr2:¬e.reason=2:=by simpa using hc29
 refine zR (zC ?_)
 refine zA (zN ?_)
 refine zI ?_ ?_<;>intro hc43
 ·
  have hr3:e.reason=3:=by simpa using hc43
  refine zR ?_
  refine zF Jl ?_
  refine zL Qr ?_
  refine zC ?_
  refine zA (zN (Qs (Qm (Qb ?_))))
  exact zr rfl rfl (by rw [zzV hr1 hr2 hr3])
 have hr3:¬e.reason=3:=by simpa using hc43
 refine Qo (Qg (Qa (zR (zA (zN (Qs ?_))))))
 exact zr rfl rfl (by rw [zz1 hr1 hr2 hr3])
theorem zza {I:Qw}{av:Option Addr}{n c:Nat}{xs:List Int}(hS:Sl I 1 QP av n c xs)(hn:n≤100000)(v:Int):Zu Tryz.prog 111 [.slice av n c,.int .i64 v] I (.bool (xs.any fun y=>v==y)):=by
 intro g H w hw
 refine qe Tryz.func111 Tryz.ntmps111 hw ?_
 refine zR (zA (zN (Qk (zR ?_))))
 refine zA (zN (Ql ?_))
 refine zU [(0,_),(1,_)] (fun T L0 mz E I' loc'=>∃ (k:Nat),mz=n-k∧E=(5,.int .i64 k)::T∧I=I'∧L0=loc'∧k≤n∧(xs.take k).any (fun y=>y==v)=false) ?_ (h:=⟨0,rfl,rfl,rfl,rfl,Nat.zero_le _,rfl⟩)
 rintro mz E I' loc' ⟨k,rfl,rfl,rfl,rfl,hk,hno⟩
 refine Qk (zR (zM ?_))
 refine zM ?_
 refine zQ Qt ?_
 refine zC (zN ?_)
 refine zI ?_ ?_<;>intro hc9
 ·
  have hlt_k:k<n:=by have h:=hc9;simp at h;omega
  obtain ⟨x,hx⟩:=hS.at hlt_k
  refine Qo (Qa (Qk (Ql (zR (zM ?_)))))
  refine zM ?_
  refine zV (Qz rfl rfl Qt (by assumption) (fun hg=>by omega)) ?_
  refine zV (Qd rfl Qr (fun hg=>by exact zAe hS hx rfl)) ?_
  refine zM ?_
  refine zC (zN ?_)
  refine zI ?_ ?_<;>intro hc17
  ·
   refine zR (zA (zN (Qs (Qm (Qb (Qb (Qm ?_)))))))
   refine Qb ?_
   exact zr rfl rfl (by rw [←zgM,YM hx hc17])
  refine Qo (Qg (Qa (Qf (zM ?_))))
  refine zB ?_
  refine zA (Qc ?_)
  exact zm (h:=⟨n-(k+1),by omega,k+1,rfl,rfl,rfl,rfl,by omega,Ym hx hno hc17⟩)
 have hge_k:n≤k:=by have h:=hc9;simp at h;omega
 rw [Zo hS.len hge_k] at hno
 refine QH (Qe (Qe (Qj (Qa (zR (zA (zN ?_)))))))
 refine Qs ?_
 exact zr rfl rfl (by rw [←zgM,hno])
theorem zkO {I:Qw}{bv:Option Addr}{n2 c2:Nat}{rows:List (List Int)}(hV:SlN I bv n2 c2 rows)(hn2:n2≤100000){dv:Option Addr}{n3 c3:Nat}{es:List Em}(hEs:Sl I 3 Yo dv n3 c3 es)(hn3:n3≤100000)(hr0:0<rows.length)(hrr:∀ r∈rows,r.length=(rows.getD 0 []).length):Zu Tryz.prog 110 [.slice bv n2 c2,.slice dv n3 c3] I (.bool (JZ rows (rows.getD 0 []).length (-1) es)):=by
 intro g H w hw
 refine qe Tryz.func110 Tryz.ntmps110 hw ?_
 have hVl:=hV.len
 obtain ⟨hs,hVH⟩:=id hV
 have hHH:=hVH.1
 have hEl:=hEs.len
 obtain ⟨hx0,rx0,hhx0,hrx0,hQ0⟩:=hVH.at (k:=0) (by omega)
 have hg0:rows.getD 0 []=rx0:=QN hrx0
 have hQ0l:=hQ0.len
 have hg1:(rows.getD 0 []).length=rx0.length:=by rw [hg0]
 refine zR (zA (zN (Qk (zR ?_))))
 refine zA (zN (Ql ?_))
 refine zU [(0,_),(1,_)] (fun T L0 mz E I' loc'=>∃ (k:Nat) (l:Int),mz=n3-k∧E=(5,.int .i64 k)::T∧I=I'∧L0=loc'∧k≤n3∧JZ rows (rows.getD 0 []).length (-1) es=JZ rows (rows.getD 0 []).length l (es.drop k)∧(k=0∧l= -1∨0<k∧0≤l∧(es.getD (k-1) zeB).locus=l)) ?_ (h:=⟨0, -1,rfl,rfl,rfl,rfl,Nat.zero_le _,rfl,.inl ⟨rfl,rfl⟩⟩)
 rintro mz E I' loc' ⟨k,l,rfl,rfl,rfl,rfl,hk,hgo,hpv⟩
 refine Qk (zR (zM ?_))
 refine zM ?_
 refine zQ Vu ?_
 refine zC (zN ?_)
 refine zI ?_ ?_<;>intro hc10
 ·
  have hlt_k:k<n3:=by have h:=hc10;simp at h;omega
  obtain ⟨e,he⟩:=hEs.at hlt_k
  have ek:((k:Int)-1).toNat=k-1:=by omega
  refine Qo (Qa (Qk (Ql (Qk (Qk ?_)))))
  refine Yq mixed (by kernel_rfl) ?_
  refine zq (Qh rfl) ?_
  refine zq (Qh rfl) ?_
  refine zq (zX Vu hEs) ?_
  refine zq (Qi rfl Ys) ?_
  refine zq (Qd rfl Qr (fun hg=>by exact zAe hEs he rfl)) ?_
  refine zq (QI rfl rfl rfl) ?_
  refine zq (Qh rfl) ?_
  refine YP 6 rfl rfl rfl ?_
  refine zj (Qh rfl) ?_
  refine zj (Qh rfl) ?_
  refine zj (zX Vu hEs) ?_
  refine zj (Qi rfl Ys) ?_
  refine zj (Qd rfl Qr (fun hg=>by exact zAe hEs he rfl)) ?_
  refine zj (Qh rfl) ?_
  refine zj (zX Q0 hHH) ?_
  refine zj (Qd rfl QJ (fun hg=>by exact zAe hHH hhx0 rfl)) ?_
  refine zj (ZB rfl Qt) ?_
  refine zj (QI rfl rfl rfl) ?_
  refine Ke rfl rfl rfl rfl rfl ?_
  refine zq (Qh rfl) ?_
  refine YP 18 rfl rfl rfl ?_
  refine zj (Qh rfl) ?_
  refine zj (QI rfl rfl rfl) ?_
  refine zj (Qh rfl) ?_
  refine U7 21 rfl rfl rfl ?_
  refine zk (Qh rfl) ?_
  refine zk (Qh rfl) ?_
  refine zk (zX Vu hEs) ?_
  refine zk (Qi rfl Ys) ?_
  refine zk (Qd rfl Qr (fun hg=>by exact zAe hEs he rfl)) ?_
  refine zk (Qh rfl) ?_
  refine zk (Qh rfl) ?_
  refine zk (ZA rfl rfl rfl (fun hg=>by omega)) ?_
  refine zk (zX Vu hEs) ?_
  refine zk (Qi rfl Ys) ?_
  refine zk (Qd rfl Qr (fun hg=>by exact zAe (k:=((k:Int)-1).toNat) hEs (QX (d:=zeB) rfl (by simp [ZV] at hg;omega)) rfl)) ?_
  refine zk (QI rfl rfl rfl) ?_
  refine zca rfl rfl rfl (.some rfl rfl rfl rfl gbf) rfl rfl ?_
  refine Ke rfl rfl rfl rfl rfl ?_
  refine Yp ?_
  refine Qa ?_
  refine zI ?_ ?_<;>intro hc48
  ·
   rw [ek] at hc48
   have hq:(decide (e.locus≤l)||decide (e.locus≥((rows.getD 0 []).length:Int)))=true:=by rw [←zzG hpv,hg1,hQ0l];exact hc48
   have hbe:zbA rows (rows.getD 0 []).length l e=true:=by rw [zeX,hq];rfl
   refine zR (zA (zN (Qs (Qb (Qm (Qb (Qb ?_)))))))
   refine Qm (Qb ?_)
   exact zr rfl rfl (by rw [hgo.trans (Y4 he hbe)])
  rw [ek] at hc48
  have hq:(decide (e.locus≤l)||decide (e.locus≥((rows.getD 0 []).length:Int)))=false:=by rw [←zzG hpv,hg1,hQ0l];exact hc48
  have hq2:l<e.locus∧e.locus<((rows.getD 0 []).length:Int):=by have h:=hq;simp only [Bool.or_eq_false_iff,decide_eq_false_iff_not] at h;omega
  refine Qo (Qa (zR (zM ?_)))
  refine zM ?_
  refine zM ?_
  refine zV (zX Vu hEs) ?_
  refine zV (Qq rfl zlq (fun hg=>by exact zAm hEs he) rfl) ?_
  refine qc (vs:=[_,_]) rfl zrF (ztB hV hn2 e (by omega) (fun r hr=>by rw [hrr r hr];omega)) ?_
  refine zA ?_
  refine zN (zR ?_)
  refine zM ?_
  refine zO (zN ?_)
  refine zI ?_ ?_<;>intro hc56
  ·
   have hbe:zbA rows (rows.getD 0 []).length l e=true:=by rw [zeX,hq];exact hc56
   refine zR (zA (zN (Qs (Qm (Qb (Qb (Qm ?_)))))))
   refine Qb ?_
   exact zr rfl rfl (by rw [hgo.trans (Y4 he hbe)])
  have hbe:zbA rows (rows.getD 0 []).length l e=false:=by rw [zeX,hq];exact hc56
  refine Qo (Qg (Qa (Qf (zM ?_))))
  refine zB ?_
  refine zA (Qc ?_)
  exact zm (h:=⟨n3-(k+1),by omega,k+1,e.locus,rfl,rfl,rfl,rfl,by omega,by rw [hgo,zaY he hbe],.inr ⟨by omega,by omega,by rw [Nat.add_sub_cancel,List.getD_eq_getElem?_getD,he];rfl⟩⟩)
 have hge_k:n3≤k:=by have h:=hc10;simp at h;omega
 rw [zdU (by omega)] at hgo
 refine QH (Qe (Qe (Qj (Qa (zR (zA (zN ?_)))))))
 refine Qs ?_
 exact zr rfl rfl (by rw [hgo])
end
section
open Go Go.Kn Go.Proofs
theorem zxd {rows:List (List Int)}{no:Int}{cl:List Int}{es:List Em}(h:Yk rows cl=0)(h2:((decide (no<0)||decide (no>1048576))|| !JZ rows (rows.getD 0 []).length (-1) es)=true):Uu rows no cl es=430:=by
 cases h3:(decide (no<0)||decide (no>1048576))
 ·
  rw [h3,Bool.false_or,Bool.not_eq_true'] at h2;exact Wm h h3 h2
 ·
  exact zln h h3
theorem zrh {rows:List (List Int)}{no:Int}{es:List Em}(h2:((decide (no<0)||decide (no>1048576))|| !JZ rows (rows.getD 0 []).length (-1) es)=false):(decide (no<0)||decide (no>1048576))=false∧JZ rows (rows.getD 0 []).length (-1) es=true:=by
 rw [Bool.or_eq_false_iff,Bool.not_eq_false'] at h2;exact h2
end
section
open Go Go.Kn Go.Proofs
theorem zqK:Fun Tryz.prog 109:=.of Tryz.func109 (by kernel_rfl) (by kernel_rfl)
theorem zqg:Fun Tryz.prog 110:=.of Tryz.func110 (by kernel_rfl) (by kernel_rfl)
theorem zq9:Fun Tryz.prog 111:=.of Tryz.func111 (by kernel_rfl) (by kernel_rfl)
theorem zt9:Fun Tryz.prog 65:=.of Tryz.func65 (by kernel_rfl) (by kernel_rfl)
set_option maxHeartbeats 4000000 in
theorem zve {I:Qw} {av:Option Addr} {n c:Nat} {xs:List Int} (hS:Sl I 1 QP av n c xs) {bv:Option Addr} {n2 c2:Nat} {rows:List (List Int)} (hVn:SlN I bv n2 c2 rows) (hn2:n2≤100000) {dv:Option Addr} {n3 c3:Nat} {es:List Em} (hEs:Sl I 3 Yo dv n3 c3 es) (hn3:n3≤100000) (hnx:n≤100000) (no:Int):Z4 Tryz.prog 65 [.slice bv n2 c2,.int .i64 no,.slice av n c,.slice dv n3 c3] I [] (zx3 rows no xs es):=by
 intro g H w hw
 refine qe Tryz.func65 Tryz.ntmps65 hw ?_
 have hIc:=zAl I
 have hlS:=hS.len
 subst hlS
 have hlV:=hVn.len
 subst hlV
 have hEl:=hEs.len
 subst hEl
 have hVn9:=hVn
 obtain ⟨hs,hV⟩:=hVn9
 have hH:=hV.1
 refine zR ?_
 refine Qv zdZ rfl rfl (fun b_8=>?_)
 refine zA ?_
 refine zN (zR ?_)
 refine zM ?_
 refine zM ?_
 refine QA (cap:=[]) (vs:=[_,_]) rfl rfl zqK .nil (znn hS hnx hVn hn2) rfl rfl ?_
 rintro vv1 I1 L1 hI1 ⟨rfl,av4,c4,rfl,hRt⟩
 have hS:=hS.mono hI1;have hVn:=hVn.mono hI1;have hV:=hV.mono hI1;have hH:=hH.mono hI1;have hEs:=hEs.mono hI1;have hIc:=hIc.trans hI1
 refine zM ?_
 refine zE ?_
 refine zE ?_
 refine zA ?_
 refine zA (zN (Qk (zR ?_)))
 refine zM ?_
 refine zC (zN ?_)
 refine zI ?_ ?_<;>intro hc23
 ·
  have hcE:Yk rows xs≠0:=by simpa using hc23
  refine zR ?_
  refine zV (QQ (ps:=[]) [_,_,_,_] zdH rfl rfl) ?_
  refine zM ?_
  refine zh Jb ?_
  refine zA (zN (Qs (Qb ?_)))
  first
  | exact Zp rfl rfl rfl ZW (vs:=ZT 0 none 0 0 none 0 0 none 0 0) (by repeat (first | exact zAj | apply zAi)) rfl (fun w hw=>⟨_,_,[],rfl,hIc,hw.drop,rfl,_,by rw [zc8 hcE]<;>rfl,.inr ⟨by rw [zc8 hcE];exact hcE,_,_,_,_,_,_,_,_,_,rfl,.nil,.nil,.nil⟩⟩)
 have hcE:Yk rows xs=0:=by simpa using hc23
 have hr0:YX rows=0:=by cases Decidable.em (YX rows=0) with
  | inl h=>exact h
  | inr h=>exact absurd ((zbm h).1.symm.trans hcE) h
 obtain ⟨hr1,hr6,hr64,hrr⟩:=JE hr0
 obtain ⟨x0,v0,hx0,hv0,hQ0⟩:=hV.at (k:=0) (by omega)
 have hg0:rows.getD 0 []=v0:=QN hv0
 have hQ0l:=hQ0.len
 have hg1:(rows.getD 0 []).length=v0.length:=by rw [hg0]
 rw [zdB hcE] at hRt ⊢
 refine Qo (Qa (Qk (zR (zM ?_))))
 refine zC ?_
 refine zM ?_
 refine QV 2 rfl rfl rfl ?_
 refine zJ (Qh rfl) ?_
 refine zJ (QI rfl rfl rfl) ?_
 refine Zs rfl rfl rfl rfl rfl ?_
 refine zM ?_
 refine QV 6 rfl rfl rfl ?_
 refine zJ (Qh rfl) ?_
 refine zJ (Qh rfl) ?_
 refine qf (vs:=[_,_]) rfl zqg (fun hg=>zkO hVn hn2 hEs hn3 (by omega) (fun r hr=>(hrr r hr).1)) ?_
 refine zJ (Yw rfl) ?_
 refine Zs rfl rfl rfl rfl rfl ?_
 refine zN ?_
 refine zI ?_ ?_<;>intro hc37
 ·
  have hm37:Uu rows no xs es=430:=zxd hcE hc37
  refine zR ?_
  refine zV (QQ (ps:=[]) [_,_,_,_] zdH rfl rfl) ?_
  refine zh Jb ?_
  refine zA (zN (Qs (Qb ?_)))
  first
  | exact Zp rfl rfl rfl ZW (vs:=ZT 0 none 0 0 none 0 0 none 0 0) (by repeat (first | exact zAj | apply zAi)) rfl (fun w hw=>⟨_,_,[],rfl,hIc,hw.drop,rfl,_,by rw [hm37]<;>rfl,.inr ⟨by rw [hm37];decide,_,_,_,_,_,_,_,_,_,rfl,.nil,.nil,.nil⟩⟩)
 have hnog:=zrh hc37
 refine Qo (Qa (zR (zM ?_)))
 refine zM ?_
 refine zM ?_
 refine zV (QQ (ps:=[(0,_),(1,_),(2,_)]) [_,_,_,_] zdH rfl rfl) ?_
 refine Qv zdZ rfl rfl (fun b_12=>?_)
 refine zh Jb ?_
 refine zN (Qk (Qk ?_))
 refine JK (loc':=[]++[(b_12,.cells (ZT no av xs.length c dv es.length c3 none 0 0).toArray 26 (0,0)),(b_8,.cells (ZT 0 none 0 0 none 0 0 none 0 0).toArray 26 (0,0))]) rfl ?_
 refine Qf (zA (zN (Ql ?_)))
 refine zU [(0,_),(3,_),(8,_),(10,_),(12,_)] (fun T L0 mz E I' loc'=>∃ (k:Nat) (va3:Option Addr) (vc3:Nat) (L:Go.Kn.Loc),mz=(rows.getD 0 []).length-k∧E=(13,.int .i64 k)::T∧I1=I'∧L++[(b_12,.cells (ZT no av xs.length c dv es.length c3 va3 k vc3).toArray 26 (0,0)),(b_8,.cells (ZT 0 none 0 0 none 0 0 none 0 0).toArray 26 (0,0))]=loc'∧k≤(rows.getD 0 []).length∧OwnS 3 1 (.slice va3 k vc3) k (((List.range k).map (UP rows xs es)).flatMap QP) L) ?_ (h:=⟨0,none,0,[],rfl,rfl,rfl,rfl,Nat.zero_le _,OwnS.nil⟩)
 rintro mz E I' loc' ⟨k,va3,vc3,L,rfl,rfl,rfl,rfl,hk,hO⟩
 refine Qk (zR (zM ?_))
 refine zM ?_
 refine zQ Q0 ?_
 refine zC (zN ?_)
 refine zI ?_ ?_<;>intro hc46
 ·
  have hlt_k:k<(rows.getD 0 []).length:=by have h:=of_decide_eq_true hc46;omega
  obtain ⟨rhs,hRh9⟩:=id hRt
  have hRh:=hRh9.1
  obtain ⟨rx,rv,hrx,hrv,hQ⟩:=hRh9.at hlt_k
  have hrv2:=zfl hcE hlt_k
  rw [hrv2] at hrv
  cases hrv
  have hrp:=zgi (rows:=rows) (cl:=xs) (l:=k)
  have hQl:=hQ.len
  have hq0:(Y3 rows xs k)[0]? =some ((Y3 rows xs k).getD 0 0):=QX rfl hrp
  have hk0:v0[k]? =some (v0.getD k 0):=QX rfl (by rw [←hg0];exact hlt_k)
  have hstl:=zeY (rows:=rows) (l:=k)
  have hrl:(Y3 rows xs k).length≤(stE rows k).length:=List.length_filter_le _ _
  refine Qo (Qa (Qk (Ql (zR (zM ?_)))))
  refine zM ?_
  refine zV (zX Q0 hRh) ?_
  refine zV (Qd rfl QJ (fun hg=>by exact zAe hRh hrx rfl)) ?_
  refine zV (zX Qt hQ) ?_
  refine zV (Qd rfl Qr (fun hg=>by exact zAe hQ hq0 rfl)) ?_
  refine zA (zN ?_)
  refine zY [(0,_),(3,_),(8,_),(10,_),(12,_),(13,_)] (fun T L0 E I' loc'=>∃ (nb:Int),E=(14,.int .i64 nb)::T∧I1=I'∧L++[(b_12,.cells (ZT no av xs.length c dv es.length c3 va3 k vc3).toArray 26 (0,0)),(b_8,.cells (ZT 0 none 0 0 none 0 0 none 0 0).toArray 26 (0,0))]=loc'∧nb=JN rows xs k) ?_ ?_
  ·
   refine Qk ?_
   refine Yq mixed (by kernel_rfl) ?_
   refine zq (Qh rfl) ?_
   refine zq (Qh rfl) ?_
   refine zq (zX Q0 hRh) ?_
   refine zq (Qd rfl QJ (fun hg=>by exact zAe hRh hrx rfl)) ?_
   refine zq (Qh rfl) ?_
   refine zq (zX Q0 hH) ?_
   refine zq (Qd rfl QJ (fun hg=>by exact zAe hH hx0 rfl)) ?_
   refine zq (Qh rfl) ?_
   refine zq (zX Qt hQ0) ?_
   refine zq (Qd rfl Qr (fun hg=>by exact zAe hQ0 hk0 rfl)) ?_
   refine Vs (cap:=[]) (vs:=[_,_]) rfl rfl zq9 (zza hQ (by omega) _) rfl rfl ?_
   refine Yp ?_
   refine Qa ?_
   refine zI ?_ ?_<;>intro hc65
   ·
    refine Qf (zM ?_)
    refine zV (zX Q0 hH) ?_
    refine zV (Qd rfl QJ (fun hg=>by exact zAe hH hx0 rfl)) ?_
    refine zM ?_
    refine zV (zX Qt hQ0) ?_
    refine zV (Qd rfl Qr (fun hg=>by exact zAe hQ0 hk0 rfl)) ?_
    refine zA (Qc ?_)
    first
    | exact VQ _ _ ⟨_,rfl,rfl,rfl,by unfold JN;rw [hg0,if_pos hc65]⟩ (.cons rfl (.cons rfl (.cons rfl (.cons rfl (.cons rfl (.cons rfl (.cons rfl .nil))))))) .refl
   refine Qo ?_
   first
   | exact VQ _ _ ⟨_,rfl,rfl,rfl,by unfold JN;rw [hg0,if_neg (by rw [hc65];decide)]⟩ (.cons rfl (.cons rfl (.cons rfl (.cons rfl (.cons rfl (.cons rfl (.cons rfl .nil))))))) .refl
  rintro E I' loc' ⟨nb,rfl,rfl,rfl,hnb⟩
  refine Qk (zR (zA (zN (Ql ?_))))
  refine zU [(0,_),(3,_),(8,_),(10,_),(12,_),(13,_)] (fun T L0 mz E I' loc'=>∃ (j:Nat) (nn:Int),mz=es.length-j∧E=(14,.int .i64 nn)::(15,.int .i64 j)::T∧I1=I'∧L++[(b_12,.cells (ZT no av xs.length c dv es.length c3 va3 k vc3).toArray 26 (0,0)),(b_8,.cells (ZT 0 none 0 0 none 0 0 none 0 0).toArray 26 (0,0))]=loc'∧j≤es.length∧nn=(es.take j).foldl (emF k) (JN rows xs k)) ?_ (h:=⟨0,_,rfl,rfl,rfl,rfl,Nat.zero_le _,hnb⟩)
  rintro mz E I' loc' ⟨j,nn,rfl,rfl,rfl,rfl,hj,hnn⟩
  refine Qk (zR (zM ?_))
  refine zM ?_
  refine zQ Vu ?_
  refine zC (zN ?_)
  refine zI ?_ ?_<;>intro hc75
  ·
   have hlt_j:j<es.length:=by have h:=hc75;simp at h;omega
   obtain ⟨e,he⟩:=hEs.at hlt_j
   refine Qo (Qa (Qk (Ql (zR (zM ?_)))))
   refine zM ?_
   refine zV (zX Vu hEs) ?_
   refine zF Ys ?_
   refine zV (Qd rfl Qr (fun hg=>by exact zAe hEs he rfl)) ?_
   refine zM ?_
   refine zC (zN ?_)
   refine zI ?_ ?_<;>intro hc84
   ·
    refine Qf (zM ?_)
    refine zM ?_
    refine zV (zX Vu hEs) ?_
    refine zF Jl ?_
    refine zV (Qd rfl Qr (fun hg=>by exact zAn (j:=1) hEs he rfl)) ?_
    refine zA (Qc (Qg (Qa (Qf ?_))))
    refine zM ?_
    refine zB ?_
    refine zA (Qc ?_)
    first
    | exact zm (h:=⟨es.length-(j+1),by omega,j+1,_,rfl,rfl,rfl,rfl,by omega,by rw [zk6 he,←hnn];unfold emF;rw [if_pos (by simpa using hc84)]⟩)
   refine Qo (Qg (Qa (Qf (zM ?_))))
   refine zB ?_
   refine zA (Qc ?_)
   first
   | exact zm (h:=⟨es.length-(j+1),by omega,j+1,_,rfl,rfl,rfl,rfl,by omega,by rw [zk6 he,←hnn];unfold emF;rw [if_neg (by simpa using hc84)]⟩)
  have hge_j:es.length≤j:=by have h:=hc75;simp at h;omega
  rw [List.take_of_length_le hge_j,ziq hnog.2] at hnn
  obtain ⟨n9,hn9⟩:∃ n9,n9=nn:=⟨_,rfl⟩
  subst hn9
  have hrd9:=hnn
  refine QH (Qe (Qe (Qj (Qa (Qf ?_)))))
  refine zF Yg ?_
  refine zV (Qd rfl QJ (fun hg=>by (repeat (first | exact zAg rfl | apply zAf | apply zAh)))) ?_
  refine zM ?_
  refine Qp (ps:=[(0,_)]) (m:=[QP n9]) Za rfl (.cons rfl (.nil)) rfl (by simp [Qu]) (by decide) (by decide) rfl rfl (fun b_93=>?_)
  refine QU (v:=_) (ys:=[n9].flatMap QP) (L:=L) rfl rfl Za hO (by repeat (first | exact .cons .here .nil | exact QD | exact Qy | apply QC | apply QB)) ⟨rfl,fun _=>rfl,by repeat (first | exact zAj | apply zAi | apply zAk)⟩ (V0 [n9]) (by omega) rfl rfl ?_
  intro v9 L9 hO9 _;rw [←List.flatMap_append] at hO9;obtain ⟨va9,vc9,rfl⟩:=zaS hO9
  refine zF Yg ?_
  refine ZE rfl rfl Zm rfl rfl (by (repeat (first | exact Upd.here | apply Upd.there | apply QM))) rfl ?_
  refine Qc (Qg (Qa (Qf (zM ?_))))
  refine zB ?_
  refine zA (Qc ?_)
  exact zm (h:=⟨(rows.getD 0 []).length-(k+1),by omega,k+1,_,_,_,rfl,rfl,rfl,rfl,by omega,by rw [KN,←hrd9];exact hO9⟩)
 have hge_k:(rows.getD 0 []).length≤k:=by have h:=of_decide_eq_false hc46;omega
 obtain rfl:k=(rows.getD 0 []).length:=by omega
 refine QH (Qe (Qe (Qj (Qa (zR ?_)))))
 refine zV (Qq rfl ZW (fun hg=>by (repeat (first | exact zAj | apply zAi | apply zAk))) rfl) ?_
 refine YG rfl rfl Jb rfl rfl rfl rfl (by (repeat (first | exact Upd.here | apply Upd.there | apply QM))) ?_
 refine zA (zN (Qs ?_))
 first
 | exact Zp rfl rfl rfl ZW (vs:=ZT no av xs.length c dv es.length c3 va3 (rows.getD 0 []).length vc3) (by repeat (first | exact zAj | apply zAi | apply zAk)) rfl (fun w hw=>by obtain ⟨I9,av9,c9,h1',h2',e9,h4'⟩:=OwnS.freeze (R:=[_,_]) hO Qu (by decide) hw;cases e9;exact ⟨_,I9,[],rfl,hIc.trans h1',h2'.drop,rfl,_,by rw [zfD hcE hnog.1 hnog.2]<;>rfl,.inl ⟨zfD hcE hnog.1 hnog.2,av,_,_,dv,_,_,va3,_,_,rfl,hS.mono h1',hEs.mono h1',h4'⟩⟩)
theorem ziM {I:Qw}{bv:Option Addr}{n2 c2:Nat}{rows:List (List Int)}(hVn:SlN I bv n2 c2 rows)(hn2:n2≤100000){ea1:Option Addr}{en1 ec1:Nat}{ea2:Option Addr}{en2 ec2:Nat}{ea3:Option Addr}{en3 ec3:Nat}{xs:List Int}{es:List Em}{rd:List Int}(hX1:Sl I 1 QP ea1 en1 ec1 xs)(hX2:Sl I 3 Yo ea2 en2 ec2 es)(hX3:Sl I 1 QP ea3 en3 ec3 rd)(hm1:en1≤100000)(hm2:en2≤100000)(hm3:en3≤100000)(no:Int):Zu Tryz.prog 32 [.slice bv n2 c2,.agg (ZT no ea1 en1 ec1 ea2 en2 ec2 ea3 en3 ec3).toArray] I (.int .i64 (UA rows no xs es rd)):=by
 intro g H w hw
 refine qe Tryz.func32 Tryz.ntmps32 hw ?_
 have hIc:=zAl I
 refine zR ?_
 refine Q9 rfl rfl rfl (fun b_3=>?_)
 refine zA ?_
 refine zN (zR ?_)
 refine zM ?_
 refine zF zfA ?_
 refine zL Qr ?_
 refine zF zbM ?_
 refine zL QJ ?_
 refine zF XE ?_
 refine zL zfM ?_
 refine QA (cap:=[]) (vs:=[_,_,_,_]) rfl rfl zt9 .nil (zve hX1 hVn hn2 hX2 hm2 hm1 no) rfl rfl ?_
 rintro vv1 I1 L1 hI1 hMQ
 have hX3:=hX3.mono hI1;have hIc:=hIc.trans hI1
 obtain ⟨rfl,no2,cl2,es2,rd2,a1,q1,c1,a2,q2,c9,a3,q3,c3,rfl,hM1,hM2,hM3,hMy,hMn⟩:=hMQ.opn
 refine zM ?_
 refine zE ?_
 refine zE ?_
 refine Qv zdZ rfl rfl (fun b_5=>?_)
 refine zh Jb ?_
 refine zA (zN (Qk (zR ?_)))
 refine zM ?_
 refine zC (zN ?_)
 refine zI ?_ ?_<;>intro hc19
 ·
  have hE0:Uu rows no xs es≠0:=by have h:=hc19;simpa using h
  refine zR (zM ?_)
  refine zA (zN (Qs (Qb ?_)))
  first
  | exact zp hIc rfl rfl (by rw [zqe hE0]<;>rfl)
 have hE0:Uu rows no xs es=0:=by have h:=hc19;simpa using h
 obtain ⟨-, -, -,rfl⟩:=hMy hE0
 refine Qo (Qa (Qk (zR ?_)))
 refine zF Yg ?_
 refine zL QJ ?_
 refine zF Yg ?_
 refine zL QJ ?_
 refine qc (vs:=[_,_]) rfl zun (zr5 hX3 hM3 hm3) ?_
 refine zO (zN ?_)
 refine zI ?_ ?_<;>intro hc26
 ·
  have hrd:rd≠Vr rows xs es:=fun e=>by have h:=hc26;rw [decide_eq_true e] at h;cases h
  refine zR (zA (zN (Qs (Qb ?_))))
  first
  | exact zp hIc rfl rfl (by rw [zwP hE0 hrd]<;>rfl)
 have hrd:rd=Vr rows xs es:=Decidable.byContradiction fun e=>by have h:=hc26;rw [decide_eq_false e] at h;cases h
 refine Qo (Qa (zR (zA (zN (Qs ?_)))))
 first
 | exact zp hIc rfl rfl (by rw [zmz hE0 hrd]<;>rfl)
end
section
open Go Go.Kn Go.Proofs
section
variable {ws:List Wr} {rows:List (List Int)} {no:Int} {cl:List Int} {es:List Em} {rd:List Int}
theorem zrS (h1:zaP ws=0)(h2:Wu ws=rows)(h3:UA rows no cl es rd=0):rows.length=ws.length∧(∀ r∈rows,r.length=rd.length)∧rd.length≤64∧zyE ws rows∧(∀ x∈ws,x.rs.length≤64)∧Yk rows cl=0∧rd=Vr rows cl es:=by
 obtain ⟨hm,hr⟩:=zfs h3
 have hc:Yk rows cl=0:=by
  cases Decidable.em (Yk rows cl=0) with
  | inl h=>exact h
  | inr h=>rw [zc8 h] at hm;exact absurd hm h
 obtain ⟨hr1,hr6,hr64,hrr⟩:=JE (KS hc)
 have hl:rd.length=(rows.getD 0 []).length:=by rw [hr,Wz]
 obtain ⟨hk,hlen⟩:=zql h1 (by rw [h2];omega)
 rw [h2] at hlen
 have h64:∀ x∈ws,x.rs.length≤64:=fun x hx=>by
  unfold Xw at hk
  split at hk
  ·
   omega
  ·
   split at hk
   ·
    omega
   ·
    rename_i hq
    have hq2:∀ x∈ws,x.rs.length≤64:=by simpa using hq
    exact hq2 x hx
 exact ⟨hlen,fun r hr'=>by rw [(hrr r hr').1,hl],by omega,by rw [←h2];exact zoE,h64,hc,hr⟩
end
end
section
open Go Go.Kn Go.Proofs
theorem zxK:Fun Tryz.prog 32:=.of Tryz.func32 (by kernel_rfl) (by kernel_rfl)
end
section
open Go Go.Kn Go.Proofs
def ixF {α:Type}(P:α→Bool)(xs:List α):List Int:=(xs.zipIdx.filter fun q=>P q.1).map fun q=>(q.2:Int)
theorem zlh {α:Type}{P:α→Bool}{xs:List α}{k:Nat}{x:α}(hx:xs[k]? =some x):ixF P (xs.take (k+1))=ixF P (xs.take k)++(if P x then [(k:Int)] else []):=by
 obtain ⟨hk,hk2⟩:=List.getElem?_eq_some_iff.1 hx
 have e:xs.take (k+1)=xs.take k++[x]:=by rw [List.take_add_one,hx];rfl
 unfold ixF
 rw [e,List.zipIdx_append,List.filter_append,List.map_append]
 have hl:(xs.take k).length=k:=by rw [List.length_take];omega
 cases h:P x<;>simp [h,hl]
theorem zf8 {α:Type}{P:α→Bool}{xs:List α}{k:Nat}{x:α}(hx:xs[k]? =some x)(h:P x=true):ixF P (xs.take (k+1))=ixF P (xs.take k)++[(k:Int)]:=by rw [zlh hx,if_pos h]
theorem zmO {α:Type}{P:α→Bool}{xs:List α}{k:Nat}{x:α}(hx:xs[k]? =some x)(h:P x=false):ixF P (xs.take (k+1))=ixF P (xs.take k):=by rw [zlh hx,if_neg (by rw [h];decide),List.append_nil]
def J9 (rows:List (List Int))(k:Nat)(c:Int):List Int:=ixF (fun r=>r.getD k 0==c) rows
def zdY (k:Nat)(n:Int):Option Int→List Int→Option Int
 | o,r=>if decide (r.getD k 0>n)&&(match o with | none=>true | some b=>decide (r.getD k 0<b)) then some (r.getD k 0) else o
def zbG (rows:List (List Int))(k:Nat)(n:Int):Option Int:=rows.foldl (zdY k n) none
theorem zfT {rows:List (List Int)}{k:Nat}{n:Int}{i:Nat}{r:List Int}(h:rows[i]? =some r):(rows.take (i+1)).foldl (zdY k n) none=zdY k n ((rows.take i).foldl (zdY k n) none) r:=by
 rw [List.take_add_one,h,List.foldl_append];rfl
theorem ze8 {k:Nat}{n:Int}{o:Option Int}{r:List Int}(h:(decide (r.getD k 0>n)&&(!o.isSome||decide (r.getD k 0<o.getD 0)))=true):zdY k n o r=some (r.getD k 0):=by
 cases o<;>simp_all [zdY]
theorem zii {k:Nat}{n:Int}{o:Option Int}{r:List Int}(h:(decide (r.getD k 0>n)&&(!o.isSome||decide (r.getD k 0<o.getD 0)))=false):zdY k n o r=o:=by
 cases o<;>simp_all [zdY]<;>omega
structure Vt where
 code:Int
 ws:List Int
structure En where
 loc:Int
 lem:Int
 vs:List Vt
structure Og where
 k:Int
 r:Int
 ws:List Int
 ps:List Int
deriving DecidableEq
def zyf (q:Nat)(r:List Int):Bool:=r.getD q 0 != 0&&r.getD q 0 != 8589934592
def zzH (q:Int)(e:Em):Bool:=e.locus==q&&e.reason==2
def OgQ (o:Og)(v:Value)(I:Qw)(L:Go.Kn.Loc):Prop:=L=[]∧∃ a n c b m d,v= .agg #[.int .i64 o.k,.int .i64 o.r,.slice a n c,.slice b m d]∧Sl I 1 QP a n c o.ws∧Sl I 1 QP b m d o.ps
def zmu (rows:List (List Int))(q:Nat):Nat→Option Int→List Vt
 | _,none=>[]
 | 0,some _=>[]
 | m+1,some c=>⟨c,J9 rows q c⟩::zmu rows q m (zbG rows q c)
def zhU (rows:List (List Int))(q:Nat):List Vt:=zmu rows q rows.length (zbG rows q (-1))
theorem zi7 {q:Nat}{n:Int}:∀ {rows:List (List Int)} {o:Option Int} {c:Int},rows.foldl (zdY q n) o=some c→o=some c∨(n<c∧∃ r∈rows,r.getD q 0=c)
 | [],o,c,h=>.inl h
 | r::rows,o,c,h=>by
  rcases zi7 (rows:=rows) h with h1 | ⟨h1,r',h2,h3⟩
  ·
   cases hb:(decide (r.getD q 0>n)&&(!o.isSome||decide (r.getD q 0<o.getD 0))) with
   | true=>
    rw [ze8 hb] at h1
    cases h1
    simp only [Bool.and_eq_true,decide_eq_true_eq] at hb
    exact .inr ⟨hb.1,r,List.mem_cons_self ..,rfl⟩
   | false=>rw [zii hb] at h1;exact .inl h1
  ·
   exact .inr ⟨h1,r',List.mem_cons_of_mem _ h2,h3⟩
theorem zfL {rows:List (List Int)}{q:Nat}{n c:Int}(h:zbG rows q n=some c):n<c∧∃ r∈rows,r.getD q 0=c:=(zi7 h).resolve_left (by simp)
def geC (rows:List (List Int))(q:Nat)(c:Int):Nat:=rows.countP fun r=>decide (c≤r.getD q 0)
theorem zwF {rows:List (List Int)}{q:Nat}{c d:Int}(h:c<d):geC rows q d≤geC rows q c:=List.countP_mono_left fun r _ hr=>by simp at*;omega
theorem zpV {q:Nat}{c d:Int}(h:c<d):∀ {rows:List (List Int)},(∃ r∈rows,r.getD q 0=c)→geC rows q d<geC rows q c
 | [],⟨_,hm,_⟩=>by cases hm
 | r::rows,⟨r',hm,he⟩=>by
  unfold geC
  rw [List.countP_cons,List.countP_cons]
  have hl:=zwF (rows:=rows) (q:=q) h
  unfold geC at hl
  by_cases hr:r.getD q 0=c
  ·
   rw [if_neg (by simp only [decide_eq_true_eq];omega),if_pos (by simp only [decide_eq_true_eq];omega)];omega
  ·
   have hx:∃ r∈rows,r.getD q 0=c:=by
    rcases List.mem_cons.1 hm with rfl | hm
    ·
     exact absurd he hr
    ·
     exact ⟨r',hm,he⟩
   have:=zpV h hx
   unfold geC at this
   by_cases h1:d≤r.getD q 0
   ·
    rw [if_pos (by simpa using h1),if_pos (by simp only [decide_eq_true_eq];omega)];omega
   ·
    rw [if_neg (by simpa using h1)];split<;>omega
def zxT (rows:List (List Int))(q m:Nat):Option Int→Prop
 | none=>True
 | some c=>geC rows q c≤m∧∃ r∈rows,r.getD q 0=c
theorem znO {rows:List (List Int)}{q:Nat}{n:Int}:zxT rows q rows.length (zbG rows q n):=by
 cases h:zbG rows q n with
 | none=>trivial
 | some c=>exact ⟨List.countP_le_length ..,(zfL h).2⟩
theorem znF {rows:List (List Int)}{q m:Nat}{c:Int}(h:zxT rows q m (some c)):∃ m',m=m'+1∧zxT rows q m' (zbG rows q c):=by
 obtain ⟨h1,r,hm,he⟩:=h
 have hp:0<geC rows q c:=List.countP_pos_iff.2 ⟨r,hm,by simp only [decide_eq_true_eq];omega⟩
 refine ⟨m-1,by omega,?_⟩
 cases h2:zbG rows q c with
 | none=>trivial
 | some d=>have h3:=zfL h2;exact ⟨by have:=zpV (rows:=rows) (q:=q) h3.1 ⟨r,hm,he⟩;omega,h3.2⟩
theorem zaM {rows:List (List Int)}{q m:Nat}{c:Int}:zmu rows q (m+1) (some c)=⟨c,J9 rows q c⟩::zmu rows q m (zbG rows q c):=rfl
theorem zds {rows:List (List Int)}{q m:Nat}:zmu rows q m none=[]:=by cases m<;>rfl
def zak {α β:Type}(R:α→β→Prop)(hs:List α)(vs:List β):Prop:=hs.length=vs.length∧∀ (k:Nat) (h:α) (v:β),hs[k]? =some h→vs[k]? =some v→R h v
theorem zak.nil {α β:Type}{R:α→β→Prop}:zak R [] []:=⟨rfl,fun k h v a=>by simp at a⟩
theorem zak.imp {α β:Type}{R R':α→β→Prop}{hs:List α}{vs:List β}(h:zak R hs vs)(hi:∀ a b,R a b→R' a b):zak R' hs vs:=⟨h.1,fun k x v a b=>hi _ _ (h.2 k x v a b)⟩
theorem zak.snoc {α β:Type}{R:α→β→Prop}{hs:List α}{vs:List β}(h:zak R hs vs){x:α}{v:β}(hV:R x v):zak R (hs++[x]) (vs++[v]):=by
 refine ⟨by simp [h.1],fun k y z a b=>?_⟩
 rw [List.getElem?_append] at a b
 rw [h.1] at a
 split at a
 ·
  next hk=>rw [if_pos hk] at b;exact h.2 k y z a b
 ·
  next hk=>
  rw [if_neg hk] at b
  cases hk2:k-vs.length with
  | zero=>rw [hk2] at a b;simp at a b;subst a b;exact hV
  | succ j=>rw [hk2] at a;simp at a
theorem zak.at {α β:Type}{R:α→β→Prop}{hs:List α}{vs:List β}(h:zak R hs vs){k:Nat}{v:β}(hv:vs[k]? =some v):∃ x,hs[k]? =some x∧R x v:=by
 obtain ⟨hk,_⟩:=List.getElem?_eq_some_iff.1 hv
 have hk2:k<hs.length:=by rw [h.1];exact hk
 exact ⟨hs[k],List.getElem?_eq_getElem hk2,h.2 k _ _ (List.getElem?_eq_getElem hk2) hv⟩
structure Vh where
 code:Int
 h:Hd
def Xs (x:Vh):List Value:=[.int .i64 x.code,.slice x.h.a x.h.n x.h.c]
theorem Zi (x:Vh):(Xs x).length=2:=rfl
def zw0 (I:Qw)(x:Vh)(v:Vt):Prop:=x.code=v.code∧Sl I 1 QP x.h.a x.h.n x.h.c v.ws
theorem zw0.mono {I I':Qw}{x:Vh}{v:Vt}(h:zw0 I x v)(hI:HLe I I'):zw0 I' x v:=⟨h.1,h.2.mono hI⟩
def zb8 (I:Qw)(hs:List Vh)(vs:List Vt):Prop:=zak (zw0 I) hs vs
theorem zb8.mono {I I':Qw}{hs:List Vh}{vs:List Vt}(h:zb8 I hs vs)(hI:HLe I I'):zb8 I' hs vs:=zak.imp h fun _ _ q=>q.mono hI
theorem zb8.snoc {I:Qw}{hs:List Vh}{vs:List Vt}(h:zb8 I hs vs){x:Vh}{v:Vt}(hV:zw0 I x v):zb8 I (hs++[x]) (vs++[v]):=zak.snoc h hV
def SlV (I:Qw)(a:Option Addr)(n c:Nat)(vs:List Vt):Prop:=∃ hs,Sl I 2 Xs a n c hs∧zb8 I hs vs
theorem SlV.mono {I I':Qw}{a:Option Addr}{n c:Nat}{vs:List Vt}(h:SlV I a n c vs)(hI:HLe I I'):SlV I' a n c vs:=⟨_,h.choose_spec.1.mono hI,h.choose_spec.2.mono hI⟩
structure Eh where
 loc:Int
 lem:Int
 h:Hd
def zad (x:Eh):List Value:=[.int .i64 x.loc,.int .i64 x.lem,.slice x.h.a x.h.n x.h.c]
theorem Zh (x:Eh):(zad x).length=3:=rfl
def zvy (I:Qw)(x:Eh)(v:En):Prop:=x.loc=v.loc∧x.lem=v.lem∧SlV I x.h.a x.h.n x.h.c v.vs
theorem zvy.mono {I I':Qw}{x:Eh}{v:En}(h:zvy I x v)(hI:HLe I I'):zvy I' x v:=⟨h.1,h.2.1,h.2.2.mono hI⟩
def zcq (I:Qw)(hs:List Eh)(vs:List En):Prop:=zak (zvy I) hs vs
theorem zcq.mono {I I':Qw}{hs:List Eh}{vs:List En}(h:zcq I hs vs)(hI:HLe I I'):zcq I' hs vs:=zak.imp h fun _ _ q=>q.mono hI
theorem zcq.snoc {I:Qw}{hs:List Eh}{vs:List En}(h:zcq I hs vs){x:Eh}{v:En}(hV:zvy I x v):zcq I (hs++[x]) (vs++[v]):=zak.snoc h hV
def zec (I:Qw)(a:Option Addr)(n c:Nat)(vs:List En):Prop:=∃ hs,Sl I 3 zad a n c hs∧zcq I hs vs
theorem zec.mono {I I':Qw}{a:Option Addr}{n c:Nat}{vs:List En}(h:zec I a n c vs)(hI:HLe I I'):zec I' a n c vs:=⟨_,h.choose_spec.1.mono hI,h.choose_spec.2.mono hI⟩
theorem zvx (xs:List Vh):YD (xs.flatMap Xs)=true:=Yv (fun _=>rfl) xs
theorem zoK (xs:List Eh):YD (xs.flatMap zad)=true:=Yv (fun _=>rfl) xs
end
section
open Go Go.Kn Go.Proofs
theorem Vi:AgT Tryz.prog 38 4:=.of (by kernel_rfl)
theorem zol:Fun Tryz.prog 33:=.of Tryz.func33 (by kernel_rfl) (by kernel_rfl)
theorem zaA:PlT Tryz.prog 38 #[(0,1),(1,1),(2,1),(3,1)] (.agg #[(.int .i64 0),(.int .i64 0),(.slice none 0 0),(.slice none 0 0)]):=⟨.of (by kernel_rfl),by kernel_rfl,fun w=>by kernel_rfl⟩
theorem V7:SzT Tryz.prog 38 4:=.of (by kernel_rfl)
theorem Xv:Yz Tryz.prog 38 (.agg #[(.int .i64 0),(.int .i64 0),(.slice none 0 0),(.slice none 0 0)]):=.of (by kernel_rfl)
theorem zu0 {I:Qw}{bv:Option Addr}{n2 c2:Nat}{rows:List (List Int)}(hV:SlN I bv n2 c2 rows)(hn2:n2≤100000)(q:Nat)(hq:∀ r∈rows,q<r.length)(c:Int):Z4 Tryz.prog 33 [.slice bv n2 c2,.int .i64 (q:Nat),.int .i64 c] I [] (KD 1 QP (J9 rows q c)):=by
 intro g H w hw
 refine qe Tryz.func33 Tryz.ntmps33 hw ?_
 have hIc:=zAl I
 have hVl:=hV.len
 obtain ⟨hs,hVH⟩:=id hV
 have hHH:=hVH.1
 refine zR (zA ?_)
 refine zN (zR ?_)
 refine Qp (ps:=[]) (m:=[]) Za rfl (.nil) rfl (by simp) (by decide) (by decide) rfl rfl (fun b_9=>?_)
 refine zA (zN (Qk (zR ?_)))
 refine zA (zN (Ql ?_))
 refine zU [(0,_),(1,_),(2,_)] (fun T L0 mz E I' loc'=>∃ (k:Nat) (v:Value) (m:Nat) (L:Go.Kn.Loc),mz=n2-k∧E=(7,v)::(8,.int .i64 k)::T∧I=I'∧L=loc'∧k≤n2∧OwnS 3 1 v m ((ixF (fun r=>r.getD q 0==c) (rows.take k)).flatMap QP) L∧m≤k) ?_ (h:=⟨0,_,0,[(b_9,_)],rfl,rfl,rfl,rfl,Nat.zero_le _,by rw [List.take_zero];exact OwnS.new,Nat.le_refl _⟩)
 rintro mz E I' loc' ⟨k,v,m,L,rfl,rfl,rfl,rfl,hk,hO,hm⟩
 refine Qk (zR (zM ?_))
 refine zM ?_
 refine zQ Q0 ?_
 refine zC (zN ?_)
 refine zI ?_ ?_<;>intro hc13
 ·
  have hlt_k:k<n2:=by have h:=hc13;simp at h;omega
  obtain ⟨hx,rx,hhx,hrx,hQ⟩:=hVH.at hlt_k
  have hqk:=hq rx (List.mem_of_getElem? hrx)
  have hQl:=hQ.len
  have hgx:rx[q]? =some (rx.getD q 0):=QX rfl (by omega)
  refine Qo (Qa (Qk (Ql (zR (zM ?_)))))
  refine zM ?_
  refine zV (zX Q0 hHH) ?_
  refine zV (Qd rfl QJ (fun hg=>by exact zAe hHH hhx rfl)) ?_
  refine zM ?_
  refine zV (zX Qt hQ) ?_
  refine zV (Qd rfl Qr (fun hg=>by exact zAe (k:=q) hQ hgx rfl)) ?_
  refine zM ?_
  refine zC (zN ?_)
  refine zI ?_ ?_<;>intro hc24
  ·
   have hy:(rx.getD q 0==c)=true:=by simpa using hc24
   refine Qf (zM ?_)
   refine zM ?_
   refine Qp (ps:=[(0,_)]) (m:=[QP (k:Int)]) Za rfl (.cons rfl (.nil)) rfl (by simp [Qu]) (by decide) (by decide) rfl rfl (fun b_27=>?_)
   refine QU (v:=_) (ys:=[(k:Int)].flatMap QP) (L:=L) rfl rfl Za hO (by repeat (first | exact .cons .here .nil | exact QD | exact Qy | apply QC | apply QB)) ⟨rfl,fun _=>rfl,by repeat (first | exact zAj | apply zAi | apply zAk)⟩ (V0 _) (by omega) rfl rfl ?_
   intro v9 L9 hO9 _;rw [←List.flatMap_append] at hO9
   refine zA (Qc (Qg (Qa (Qf ?_))))
   refine zM ?_
   refine zB ?_
   refine zA (Qc ?_)
   first
   | exact zm (h:=⟨n2-(k+1),by omega,k+1,_,_,_,rfl,rfl,rfl,rfl,by omega,by rw [zf8 hrx hy];exact hO9,by omega⟩)
  have hy:(rx.getD q 0==c)=false:=by simpa using hc24
  refine Qo (Qg (Qa (Qf (zM ?_))))
  refine zB ?_
  refine zA (Qc ?_)
  first
  | exact zm (h:=⟨n2-(k+1),by omega,k+1,_,_,_,rfl,rfl,rfl,rfl,by omega,by rw [zmO hrx hy];exact hO,by omega⟩)
 have hge_k:n2≤k:=by have h:=hc13;simp at h;omega
 rw [Zo hVl hge_k] at hO
 refine QH (Qe (Qe (Qj (Qa (zR (zM ?_))))))
 refine zA (zN (Qs ?_))
 exact Zq rfl rfl (fun w hw=>by obtain ⟨I9,h91,h92,h93⟩:=OwnS.res hO Qu (by decide) hw;exact ⟨_,I9,[],rfl,hIc.trans h91,h92,h93⟩)
theorem zyG {I:Qw}{bv:Option Addr}{n2 c2:Nat}{rows:List (List Int)}(hV:SlN I bv n2 c2 rows)(hn2:n2≤100000)(q:Nat)(hq:∀ r∈rows,q<r.length)(c:Int):Z4 Tryz.prog 123 [.slice bv n2 c2,.int .i64 (q:Nat),.int .i64 c] I [] (KD 1 QP (J9 rows q c)):=by
 intro g H w hw
 refine qe Tryz.func123 Tryz.ntmps123 hw ?_
 have hIc:=zAl I
 have hVl:=hV.len
 obtain ⟨hs,hVH⟩:=id hV
 have hHH:=hVH.1
 refine zR (zA (zN (Qk (zR ?_))))
 refine zM ?_
 refine zQ Q0 ?_
 refine zM (zN (Ql ?_))
 refine zU [(1,_),(2,_),(9,_),(10,_)] (fun T L0 mz E I' loc'=>∃ (k:Nat) (v:Value) (m:Nat) (L:Go.Kn.Loc),mz=n2-k∧E=(6,v)::(11,.int .i64 k)::T∧I=I'∧L=loc'∧k≤n2∧OwnS 3 1 v m ((ixF (fun r=>r.getD q 0==c) (rows.take k)).flatMap QP) L∧m≤k) ?_ (h:=⟨0,_,0,[],rfl,rfl,rfl,rfl,Nat.zero_le _,by rw [List.take_zero];exact OwnS.nil,Nat.le_refl _⟩)
 rintro mz E I' loc' ⟨k,v,m,L,rfl,rfl,rfl,rfl,hk,hO,hm⟩
 refine zR (zC (zN (Qk ?_)))
 refine zI ?_ ?_<;>intro hc12
 ·
  have hlt_k:k<n2:=by have h:=hc12;simp at h;omega
  obtain ⟨hx,rx,hhx,hrx,hQ⟩:=hVH.at hlt_k
  have hqk:=hq rx (List.mem_of_getElem? hrx)
  have hQl:=hQ.len
  have hgx:rx[q]? =some (rx.getD q 0):=QX rfl (by omega)
  refine Qo (Qa (Qk (Ql (zR (zM ?_)))))
  refine zV (zX Q0 hHH) ?_
  refine zV (Qd rfl QJ (fun hg=>by exact zAe hHH hhx rfl)) ?_
  refine zA ?_
  refine zA ?_
  refine zN (zR ?_)
  refine zM ?_
  refine zM ?_
  refine zV (zX Qt hQ) ?_
  refine zV (Qd rfl Qr (fun hg=>by exact zAe (k:=q) hQ hgx rfl)) ?_
  refine zM ?_
  refine zC (zN ?_)
  refine zI ?_ ?_<;>intro hc21
  ·
   have hy:(rx.getD q 0==c)=true:=by simpa using hc21
   refine Qf (zM ?_)
   refine zM ?_
   refine Qp (ps:=[(0,_)]) (m:=[QP (k:Int)]) Za rfl (.cons rfl (.nil)) rfl (by simp [Qu]) (by decide) (by decide) rfl rfl (fun b_24=>?_)
   refine QU (v:=_) (ys:=[(k:Int)].flatMap QP) (L:=L) rfl rfl Za hO (by repeat (first | exact .cons .here .nil | exact QD | exact Qy | apply QC | apply QB)) ⟨rfl,fun _=>rfl,by repeat (first | exact zAj | apply zAi | apply zAk)⟩ (V0 _) (by omega) rfl rfl ?_
   intro v9 L9 hO9 _;rw [←List.flatMap_append] at hO9
   refine zA (Qc (Qg (Qa (Qf ?_))))
   refine zB ?_
   refine zM (Qc ?_)
   first
   | exact zm (h:=⟨n2-(k+1),by omega,k+1,_,_,_,rfl,rfl,rfl,rfl,by omega,by rw [zf8 hrx hy];exact hO9,by omega⟩)
  have hy:(rx.getD q 0==c)=false:=by simpa using hc21
  refine Qo (Qg (Qa (Qf (zB ?_))))
  refine zM (Qc ?_)
  first
  | exact zm (h:=⟨n2-(k+1),by omega,k+1,_,_,_,rfl,rfl,rfl,rfl,by omega,by rw [zmO hrx hy];exact hO,by omega⟩)
 have hge_k:n2≤k:=by have h:=hc12;simp at h;omega
 rw [Zo hVl hge_k] at hO
 refine QH (Qe (Qe (Qj (Qa (zR (zM ?_))))))
 refine zA (zN (Qs ?_))
 exact Zq rfl rfl (fun w hw=>by obtain ⟨I9,h91,h92,h93⟩:=OwnS.res hO Qu (by decide) hw;exact ⟨_,I9,[],rfl,hIc.trans h91,h92,h93⟩)
theorem zup {I:Qw}{bv:Option Addr}{n2 c2:Nat}{rows:List (List Int)}(hV:SlN I bv n2 c2 rows)(hn2:n2≤100000)(q:Nat)(hq:∀ r∈rows,q<r.length)(n:Int):Zu Tryz.prog 67 [.slice bv n2 c2,.int .i64 (q:Nat),.int .i64 n] I (.tuple #[.int .i64 ((zbG rows q n).getD 0),.bool (zbG rows q n).isSome]):=by
 intro g H w hw
 refine qe Tryz.func67 Tryz.ntmps67 hw ?_
 have hVl:=hV.len
 obtain ⟨hs,hVH⟩:=id hV
 have hHH:=hVH.1
 refine zR (zA ?_)
 refine zA ?_
 refine zN (zR ?_)
 refine zA ?_
 refine zN (zR ?_)
 refine zA (zN (Qk (zR ?_)))
 refine zA (zN (Ql ?_))
 refine zU [(0,_),(1,_),(2,_)] (fun T L0 mz E I' loc'=>∃ (k:Nat) (o:Option Int),mz=n2-k∧E=(8,.int .i64 (o.getD 0))::(9,.bool o.isSome)::(10,.int .i64 k)::T∧I=I'∧L0=loc'∧k≤n2∧(rows.take k).foldl (zdY q n) none=o) ?_ (h:=⟨0,none,rfl,rfl,rfl,rfl,Nat.zero_le _,rfl⟩)
 rintro mz E I' loc' ⟨k,o,rfl,rfl,rfl,rfl,hk,ho⟩
 refine Qk (zR (zM ?_))
 refine zM ?_
 refine zQ Q0 ?_
 refine zC (zN ?_)
 refine zI ?_ ?_<;>intro hc15
 ·
  have hlt_k:k<n2:=by have h:=hc15;simp at h;omega
  obtain ⟨hx,rx,hhx,hrx,hQ⟩:=hVH.at hlt_k
  have hqk:=hq rx (List.mem_of_getElem? hrx)
  have hQl:=hQ.len
  have hgx:rx[q]? =some (rx.getD q 0):=QX rfl (by omega)
  refine Qo (Qa (Qk (Ql (zR (zM ?_)))))
  refine zM ?_
  refine zV (zX Q0 hHH) ?_
  refine zV (Qd rfl QJ (fun hg=>by exact zAe hHH hhx rfl)) ?_
  refine zM ?_
  refine zV (zX Qt hQ) ?_
  refine zV (Qd rfl Qr (fun hg=>by exact zAe (k:=q) hQ hgx rfl)) ?_
  refine zA ?_
  refine zN (zR ?_)
  refine zM ?_
  refine zM ?_
  refine zC ?_
  refine zM ?_
  refine QG 3 rfl rfl rfl ?_
  refine zK (Qh rfl) ?_
  refine zK (Yw rfl) ?_
  refine zK (Qh rfl) ?_
  refine QV 6 rfl rfl rfl ?_
  refine zJ (Qh rfl) ?_
  refine zJ (Qh rfl) ?_
  refine zJ (QI rfl rfl rfl) ?_
  refine zjm rfl rfl rfl (.some rfl rfl rfl rfl gbt) rfl rfl ?_
  refine QL rfl rfl rfl rfl rfl ?_
  refine zN ?_
  refine zI ?_ ?_<;>intro hc36
  ·
   refine zR (zM ?_)
   refine zA (zN (Qf ?_))
   refine zA (Qc (Qg (Qa (Qf ?_))))
   refine zM ?_
   refine zB ?_
   refine zA (Qc ?_)
   exact zm (h:=⟨n2-(k+1),by omega,k+1,some (rx.getD q 0),rfl,rfl,rfl,rfl,by omega,by rw [zfT hrx,ho,ze8 hc36]⟩)
  refine Qo (Qg (Qa (Qf (zM ?_))))
  refine zB ?_
  refine zA (Qc ?_)
  exact zm (h:=⟨n2-(k+1),by omega,k+1,o,rfl,rfl,rfl,rfl,by omega,by rw [zfT hrx,ho,zii hc36]⟩)
 have hge_k:n2≤k:=by have h:=hc15;simp at h;omega
 rw [Zo hVl hge_k] at ho
 refine QH (Qe (Qe (Qj (Qa (zR (zM ?_))))))
 refine zM ?_
 refine zA ?_
 refine zA (zN (Qs ?_))
 exact Zr rfl rfl rfl (fun w hw=>⟨by rw [show zbG rows q n=o from ho],hw.drop⟩)
theorem zbX {I:Qw}{av:Option Addr}{n c:Nat}{xs:List Int}(hS:Sl I 1 QP av n c xs){bv:Option Addr}{n2 c2:Nat}{ys:List Int}(hT:Sl I 1 QP bv n2 c2 ys)(hn:n≤100000):Zu Tryz.prog 43 [.slice av n c,.slice bv n2 c2] I (.bool (decide (xs=ys))):=by
 intro g H w hw
 refine qe Tryz.func43 Tryz.ntmps43 hw ?_
 have hl1:=hS.len
 have hl2:=hT.len
 refine zR (zA (zN (Qk (zR ?_))))
 refine zM ?_
 refine zQ Qt ?_
 refine zM ?_
 refine zQ Qt ?_
 refine zC (zN ?_)
 refine zI ?_ ?_<;>intro hc10
 ·
  have hne:xs≠ys:=fun e=>by have h:=hc10;subst e;simp at h;omega
  refine zR (zA (zN (Qs (Qb ?_))))
  exact zr rfl rfl (by rw [decide_eq_false hne])
 have hnn:n=n2:=by have h:=hc10;simp at h;omega
 refine Qo (Qa (Qk (zR (zA (zN (Ql ?_))))))
 refine zU [(0,_),(1,_)] (fun T L0 mz E I' loc'=>∃ (k:Nat),mz=n-k∧E=(5,.int .i64 k)::T∧I=I'∧L0=loc'∧k≤n∧xs.take k=ys.take k) ?_ (h:=⟨0,rfl,rfl,rfl,rfl,Nat.zero_le _,rfl⟩)
 rintro mz E I' loc' ⟨k,rfl,rfl,rfl,rfl,hk,hall⟩
 refine Qk (zR (zM ?_))
 refine zM ?_
 refine zQ Qt ?_
 refine zC (zN ?_)
 refine zI ?_ ?_<;>intro hc14
 ·
  have hlt_k:k<n:=by have h:=hc14;simp at h;omega
  obtain ⟨x,hx⟩:=hS.at hlt_k
  obtain ⟨y,hy⟩:=hT.at (show k<n2 by omega)
  refine Qo (Qa (Qk (Ql (Qk ?_))))
  refine Yq mixed (by kernel_rfl) ?_
  refine zq (Qh rfl) ?_
  refine zq (Qh rfl) ?_
  refine zq (zX Qt hS) ?_
  refine zq (Qd rfl Qr (fun hg=>by exact zAe hS hx rfl)) ?_
  refine zq (Qh rfl) ?_
  refine zq (Qh rfl) ?_
  refine zq (zX Qt hT) ?_
  refine zq (Qd rfl Qr (fun hg=>by exact zAe hT hy rfl)) ?_
  refine zq (QI rfl rfl rfl) ?_
  refine Yp ?_
  refine Qa ?_
  refine zI ?_ ?_<;>intro hc25
  ·
   have hne:xs≠ys:=fun e=>by subst e;rw [hx] at hy;cases hy;simp at hc25
   refine zR (zA (zN (Qs (Qm (Qb (Qb (Qm ?_)))))))
   refine Qb ?_
   exact zr rfl rfl (by rw [decide_eq_false hne])
  have hxy:x=y:=by simpa using hc25
  refine Qo (Qg (Qa (Qf (zM ?_))))
  refine zB ?_
  refine zA (Qc ?_)
  exact zm (h:=⟨n-(k+1),by omega,k+1,rfl,rfl,rfl,rfl,by omega,by rw [List.take_add_one,List.take_add_one,hall,hx,hy,hxy]⟩)
 have hge_k:n≤k:=by have h:=hc14;simp at h;omega
 have heq:xs=ys:=by rw [List.take_of_length_le (by omega),List.take_of_length_le (by omega)] at hall;exact hall
 refine QH (Qe (Qe (Qj (Qa (zR (zA (zN ?_)))))))
 refine Qs ?_
 exact zr rfl rfl (by rw [decide_eq_true heq])
end
section
open Go Go.Kn Go.Proofs
theorem zbd:ElT Tryz.prog 72 77 2 32:=.of (by kernel_rfl)
theorem zpZ:Fun Tryz.prog 67:=.of Tryz.func67 (by kernel_rfl) (by kernel_rfl)
theorem zf1:PlT Tryz.prog 77 #[(0,1),(1,1)] (.agg #[(.int .i64 0),(.slice none 0 0)]):=⟨.of (by kernel_rfl),by kernel_rfl,fun w=>by kernel_rfl⟩
theorem zvZ {I:Qw}{bv:Option Addr}{n2 c2:Nat}{rows:List (List Int)}(hV:SlN I bv n2 c2 rows)(hn2:n2≤100000)(q:Nat)(hq:∀ r∈rows,q<r.length):Z4 Tryz.prog 34 [.slice bv n2 c2,.int .i64 (q:Nat)] I [] (fun v I' L=>L=[]∧∃ a n c,v= .slice a n c∧SlV I' a n c (zhU rows q)):=by
 intro g H w hw
 refine qe Tryz.func34 Tryz.ntmps34 hw ?_
 have hIc:=zAl I
 have hVl:=hV.len
 refine zR (zA ?_)
 refine zN (zR ?_)
 refine Qp (ps:=[]) (m:=[]) zbd rfl (.nil) rfl (by simp) (by decide) (by decide) rfl rfl (fun b_8=>?_)
 refine zA ?_
 refine zN (zR ?_)
 refine zM ?_
 refine zM ?_
 refine qc (vs:=[_,_,_]) rfl zpZ (zup hV hn2 q hq _) ?_
 refine zM ?_
 refine zE ?_
 refine zE ?_
 refine zA ?_
 refine zA (zN (Qk (Ql ?_)))
 refine zU [(0,_),(1,_)] (fun T L0 mz E I' loc'=>∃ (m:Nat) (o:Option Int) (v5:Value) (os:List Vh) (us:List Vt) (L:Go.Kn.Loc),mz=m∧E=(5,v5)::(6,.int .i64 (o.getD 0))::(7,.bool o.isSome)::T∧HLe I I'∧L=loc'∧OwnS 77 2 v5 os.length (os.flatMap Xs) L∧zb8 I' os us∧us++zmu rows q m o=zhU rows q∧zxT rows q m o∧os.length+m≤n2) ?_ (h:=⟨rows.length,zbG rows q (-1),_,[],[],[(b_8,_)],rfl,rfl,zAl _,rfl,OwnS.new,zak.nil,rfl,znO,by rw [List.length_nil];omega⟩)
 rintro mz E J1 loc' ⟨m,o,v5,os,us,L,rfl,rfl,hJ,rfl,hO,hre,hsu,hvi,hbd⟩
 have hV:=hV.mono hJ;have hIc:=hIc.trans hJ
 have hB0:=hJ
 obtain ⟨va5,vc5,rfl⟩:=zaS hO
 refine Qk (zR (zM (zN ?_)))
 refine zI ?_ ?_<;>intro hc15
 ·
  obtain ⟨c,rfl⟩:∃ c,o=some c:=Option.isSome_iff_exists.1 hc15
  obtain ⟨m1,rfl,hvi2⟩:=znF hvi
  rw [zaM] at hsu
  refine Qo (Qa (Ql (zR (zM ?_))))
  refine zM ?_
  refine zM ?_
  refine zM ?_
  refine zM ?_
  refine QA (cap:=[]) (vs:=[_,_,_]) rfl rfl zol .nil (zu0 hV hn2 q hq _) rfl rfl ?_
  rintro vv2 I2 L2 hI2 ⟨rfl,a9,c9,rfl,hH⟩
  have hV:=hV.mono hI2;have hre:=hre.mono hI2;have hB0:=hB0.trans hI2
  have hH:Sl I2 1 QP a9 (J9 rows q c).length c9 (J9 rows q c):=hH
  refine zV (QQ (ps:=[(0,_),(1,_)]) [_,_] zf1 rfl rfl) ?_
  refine Qp (ps:=[(0,_)]) (m:=[Xs (⟨c,⟨a9,(J9 rows q c).length,c9⟩⟩:Vh)]) zbd rfl (.cons rfl (.nil)) rfl (by simp [Zi]) (by decide) (by decide) rfl rfl (fun b_23=>?_)
  refine QU (v:=_) (ys:=[(⟨c,⟨a9,(J9 rows q c).length,c9⟩⟩:Vh)].flatMap Xs) (L:=L) rfl rfl zbd hO (by repeat (first | exact .cons .here .nil | exact QD | exact Qy | apply QC | apply QB)) ⟨rfl,fun _=>rfl,by repeat (first | exact zAj | apply zAi | apply zAk)⟩ (zvx _) (by omega) rfl rfl ?_
  intro v9 L9 hO9 _;rw [←List.flatMap_append] at hO9
  refine zA (zN (Qf ?_))
  refine zM ?_
  refine zM ?_
  refine zM ?_
  refine qc (vs:=[_,_,_]) rfl zpZ (zup hV hn2 q hq _) ?_
  refine zM ?_
  refine zE ?_
  refine zE ?_
  refine zA ?_
  refine zA (Qc (Qg ?_))
  exact zm (h:=⟨m1,by omega,m1,zbG rows q c,_,os++[(⟨c,⟨a9,(J9 rows q c).length,c9⟩⟩:Vh)],us++[⟨c,J9 rows q c⟩],L9,rfl,rfl,hB0,rfl,by rw [List.length_append,List.length_singleton];exact hO9,hre.snoc (v:=⟨c,J9 rows q c⟩) ⟨rfl,hH⟩,by rw [List.append_assoc];exact hsu,hvi2,by rw [List.length_append,List.length_singleton];omega⟩)
 obtain rfl:o=none:=by simpa using hc15
 rw [zds,List.append_nil] at hsu
 refine QH (Qe (Qe (Qj (Qa (zR (zM ?_))))))
 refine zA (zN (Qs ?_))
 exact Zq rfl rfl (fun w hw=>by obtain ⟨I9,h91,h92,a,c,e9,h94⟩:=OwnS.freeze' hO Zi (by decide) hw;exact ⟨_,I9,[],rfl,hIc.trans h91,h92,rfl,a,_,c,e9,os,h94,by rw [←hsu];exact hre.mono h91⟩)
end
section
open Go Go.Kn Go.Proofs
def zs8 (rows:List (List Int))(rd:List Int)(k:Nat):List En:=if (J9 rows k (rd.getD k 0)).length<rows.length then [⟨(k:Int),rd.getD k 0,zhU rows k⟩] else []
def zfS (rows:List (List Int))(rd:List Int)(k:Nat):List En:=(List.range k).flatMap (zs8 rows rd)
theorem X3 {rows:List (List Int)}{rd:List Int}{k:Nat}:zfS rows rd (k+1)=zfS rows rd k++zs8 rows rd k:=by
 unfold zfS;rw [List.range_succ,List.flatMap_append];simp
theorem zfV {rows:List (List Int)}{rd:List Int}{k:Nat}(h:(J9 rows k (rd.getD k 0)).length<rows.length):zfS rows rd (k+1)=zfS rows rd k++[⟨(k:Int),rd.getD k 0,zhU rows k⟩]:=by rw [X3];unfold zs8;rw [if_pos h]
theorem ziA {rows:List (List Int)}{rd:List Int}{k:Nat}(h:¬(J9 rows k (rd.getD k 0)).length<rows.length):zfS rows rd (k+1)=zfS rows rd k:=by rw [X3];unfold zs8;rw [if_neg h,List.append_nil]
def zoL (e:Int)(rows:List (List Int))(rd:List Int):List En:=if e≠0 then [] else zfS rows rd rd.length
theorem zlD {e:Int}{rows:List (List Int)}{rd:List Int}(h:e≠0):zoL e rows rd=[]:=if_pos h
theorem zb7 {e:Int}{rows:List (List Int)}{rd:List Int}(h:e=0):zoL e rows rd=zfS rows rd rd.length:=if_neg (by omega)
def zxV (e:Int)(xs:List En)(v:Value)(I:Qw)(L:Go.Kn.Loc):Prop:=L=[]∧∃ a n c,v= .tuple #[.slice a n c,.int .i64 e]∧zec I a n c xs
theorem zec.nil {I:Qw}:zec I none 0 0 []:=⟨[],.nil,zak.nil⟩
theorem SlV.len {I:Qw}{a:Option Addr}{n c:Nat}{vs:List Vt}(h:SlV I a n c vs):vs.length=n:=by obtain ⟨hs,h1,h2⟩:=h;rw [←h2.1];exact h1.len
theorem zec.len {I:Qw}{a:Option Addr}{n c:Nat}{vs:List En}(h:zec I a n c vs):vs.length=n:=by obtain ⟨hs,h1,h2⟩:=h;rw [←h2.1];exact h1.len
def eqL {α:Type}(P:α→α→Bool):List α→List α→Bool
 | [],[]=>true
 | a::as1,b::bs=>P a b&&eqL P as1 bs
 | _,_=>false
theorem zew {α:Type}{P:α→α→Bool}:∀ {xs ys:List α},xs.length≠ys.length→eqL P xs ys=false
 | [],[],h=>absurd rfl h
 | _::_,[],_=>rfl
 | [],_::_,_=>rfl
 | a::xs,b::ys,h=>by
  unfold eqL;rw [zew (xs:=xs) (ys:=ys) (fun e=>h (by simp [e])),Bool.and_false]
theorem zcH {α:Type}{P:α→α→Bool}:∀ {xs ys:List α} {k:Nat} {x y:α},xs[k]? =some x→ys[k]? =some y→eqL P (xs.take (k+1)) (ys.take (k+1))=(eqL P (xs.take k) (ys.take k)&&P x y)
 | [],_,k,x,y,h,_=>by simp at h
 | _::_,[],k,x,y,_,h=>by simp at h
 | a::xs,b::ys,0,x,y,h1,h2=>by simp at h1 h2;subst h1;subst h2;simp [eqL]
 | a::xs,b::ys,k+1,x,y,h1,h2=>by
  simp only [List.getElem?_cons_succ] at h1 h2
  simp only [List.take_succ_cons,eqL]
  rw [zcH h1 h2,Bool.and_assoc]
theorem zfd {α:Type}{P:α→α→Bool}:∀ {xs ys:List α} {k:Nat} {x y:α},xs[k]? =some x→ys[k]? =some y→P x y=false→eqL P xs ys=false
 | [],_,k,x,y,h,_,_=>by simp at h
 | _::_,[],k,x,y,_,h,_=>by simp at h
 | a::xs,b::ys,0,x,y,h1,h2,h=>by simp at h1 h2;subst h1;subst h2;unfold eqL;rw [h];rfl
 | a::xs,b::ys,k+1,x,y,h1,h2,h=>by
  simp only [List.getElem?_cons_succ] at h1 h2
  unfold eqL;rw [zfd h1 h2 h,Bool.and_false]
theorem XM {α:Type}{P:α→α→Bool}(h:∀ a,P a a=true):∀ xs:List α,eqL P xs xs=true
 | []=>rfl
 | a::xs=>by unfold eqL;rw [h a,XM h xs];rfl
theorem dm2 {p q c:Bool}(h:(!p|| !q)=c):(p&&q)= !c:=by cases p<;>cases q<;>simp_all
theorem dm3 {p q r c:Bool}(h:((!p|| !q)|| !r)=c):((p&&q)&&r)= !c:=by cases p<;>cases q<;>cases r<;>simp_all
def vtE (x y:Vt):Bool:=x.code==y.code&&decide (x.ws=y.ws)
def enE (x y:En):Bool:=(x.loc==y.loc&&x.lem==y.lem)&&eqL vtE x.vs y.vs
theorem znX (x:Vt):vtE x x=true:=by simp [vtE]
theorem zfh (x:En):enE x x=true:=by unfold enE;rw [XM znX];simp
def ogE (x y:Og):Bool:=x.k==y.k&&(x.r==y.r&&(decide (x.ws=y.ws)&&decide (x.ps=y.ps)))
theorem znC (x:Og):ogE x x=true:=by simp [ogE]
end
end Go.Proofs.YtodakphagkommaaGreatDoor
