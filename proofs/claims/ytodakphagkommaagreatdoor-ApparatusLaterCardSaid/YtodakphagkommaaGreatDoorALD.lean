/- apparatusLater_holds, part D of the proof: what its theorems say holds without further conditions. -/
import Derived.Test.YtodakphagkommaaGreatDoorALC
section
namespace Go.Kn
open Go
def zrR {α:Type}(P:Program)(f:FuncId)(cap:List Value)(I:Qu)(K:Loc)(en1 en2:α→Value)(xs:List α):Prop:=
 ∀ g l (J Jx:List α→Qu→Qu→Prop),
  (∀ pre x I' H',pre++[x]<+:xs→HLe I I'→J pre I' H'→Wb P g l [en1 x,en2 x] I' H' fun b I2 H2=>if b then J (pre++[x]) I2 H2 else Jx (pre++[x]) I2 H2)→
  ∀ I0 H w,HLe I I0→J [] I0 H→St g I0 H K w→Calls P f ((.func (.yield l) #[] #[]:Value)::cap).toArray w fun e w'=>∃ v I' H',e= .returned v∧HLe I0 I'∧St g I' H' [] w'∧(J xs I' H'∨∃ pre,pre<+:xs∧Jx pre I' H')
section
variable {α:Type} {C:Cx} {Q:Exit→Act→World→Prop} {E E':Env} {I I':Qu} {loc loc' L R:Loc} {ops:Array Oper} {rest:List Oper} {S:GS}
variable {Jc:List α→Qu→Loc→Prop} {Jx:Code→List α→Qu→Loc→Prop} {pre:List α}
theorem zbN {P:Program}{N:Nat}{D:List Deferred}{K:Loc}{g:World}{H:Qu}{gop:Operand}{p q:Nat}{assign body:Code}{f:FuncId}{cap:List Value}{en1 en2:α→Value}{xs:List α}
  (Jc:List α→Qu→Loc→Prop)(Jx:Code→List α→Qu→Loc→Prop)(Ja:List α→α→Env→Qu→Loc→Prop)
  (hg:QB [] E gop=some (.func (.func f) #[] cap.toArray))(hF:Fun P f)(hseq:zrR P f cap I K en1 en2 xs)(hp:Nat.blt p N=true)(hq9:Nat.blt q N=true)(h0:Jc [] I loc)
  (hass:∀ l pre x I' loc' H1,pre++[x]<+:xs→HLe I I'→Jc pre I' loc'→X ⟨P,some l,N,[],g,H1⟩ (Exit.then (Met ⟨P,some l,N,[],g,H1⟩ fun E2 I2 loc2=>HLe I' I2∧Ja pre x E2 I2 loc2) (fun _ _ _=>False)) assign ((q,en2 x)::(p,en1 x)::E) I' loc')
  (hbody:∀ l pre x E2 I2 loc2 H2,pre++[x]<+:xs→HLe I I2→Ja pre x E2 I2 loc2→X ⟨P,some l,N,[],g,H2⟩ (zaN g H2 (fun q0 I3 loc3=>HLe I2 I3∧Jc q0 I3 loc3) (fun c q0 I3 loc3=>HLe I2 I3∧Jx c q0 I3 loc3) (pre++[x])) body E2 I2 loc2)
  (hdone:∀ bd I' loc',HLe I I'→Jc xs I' loc'→At ⟨P,none,N,{target:=.collected bd,args:= #[]}::D,g,H⟩ Q .normal E I' (loc'++[(bd,.deferred (some []))]))
  (hstop:∀ c bd pre I' loc',HLe I I'→pre<+:xs→Jx c pre I' loc'→X ⟨P,none,N,{target:=.collected bd,args:= #[]}::D,g,H⟩ Q c E I' (loc'++[(bd,.deferred (some []))])):
  X ⟨P,none,N,D,g,H⟩ Q (.rangeFunc gop #[p,q] assign body) E I (K++loc):=by
 intro a w ha hw
 refine wpIn_rangeFunc fun fn _=>?_
 have hen:=run_enterLoop_outer (P:=P) (w:=w) fn a.tmps #[p,q] assign body
 generalize hbd:w.heap.size=bd at hen
 let rec_:LoopState→Option Code→Obj:=fun st pd=>.loop {state:=st,pending:=pd,fn,tmps:=a.tmps,params:= #[p,q],assign,body,defers:=bd}
 have hw1:St g I H ((bd+1,rec_ .ready none)::(bd,.deferred (some []))::(K++loc)) ((w.alloc (.deferred (some []))).alloc (rec_ .ready none)):=by
  have h1:=hw.alloc (.deferred (some []))
  have h2:=h1.alloc (rec_ .ready none)
  rw [World.size_alloc,hbd] at h2
  exact h2
 have hev:=Qj (S:=[]) ha trivial rfl hg
 refine ⟨bd+1,[{target:=.collected bd,args:= #[]}],_,{target:=.fn (.func f) cap.toArray,args:= #[.func (.yield (bd+1)) #[] #[]]},(w.alloc (.deferred (some []))).alloc (rec_ .ready none),f,((.func (.yield (bd+1)) #[] #[]:Value)::cap).toArray,(w.alloc (.deferred (some []))).alloc (rec_ .ready none),hen,?_,fun _ _=>trivial,?_,by simp [FR],WC.2 ?_⟩
 ·
  have e2:a.eval (.const (.func (.yield (bd+1)) #[] #[]))= .func (.yield (bd+1)) #[] #[]:=rfl
  simp only [resolve,List.map_toArray,List.map_cons,List.map_nil,e2,hev,Deferred.ofValue]
  rfl
 ·
  simp only [invoke,Vz hF]
  simp
 -- the caller's blocks, between two rounds
 let Lr:LoopState→Option Code→Loc→Loc:=fun st pd l'=>l'++[(bd+1,rec_ st pd),(bd,.deferred (some []))]
 have okL:∀ {I' H1 l' W st pd},St g I' H1 (Lr st pd l') W→((Lr st pd l').map (·.1)).Nodup:=fun h=>h.nodup
 let J:List α→Qu→Qu→Prop:=fun pre I' H'=>∃ l',Jc pre I' l'∧HLe I I'∧H'=Vj H (Lr .ready none l')∧((Lr .ready none l').map (·.1)).Nodup∧∀ b o,(b,o)∈Lr .ready none l'→H b=none
 let Jy:List α→Qu→Qu→Prop:=fun pre I' H'=>∃ c l',Jx c pre I' l'∧HLe I I'∧H'=Vj H (Lr .done (some c) l')∧((Lr .done (some c) l').map (·.1)).Nodup∧∀ b o,(b,o)∈Lr .done (some c) l'→H b=none
 have hw2:St g I H (K++Lr .ready none loc) ((w.alloc (.deferred (some []))).alloc (rec_ .ready none)):=by
  have hp:(K++Lr .ready none loc).Perm ((bd+1,rec_ .ready none)::(bd,.deferred (some []))::(K++loc)):=by
   show (K++(loc++[(bd+1,rec_ .ready none),(bd,.deferred (some []))])).Perm _
   rw [←List.append_assoc]
   exact List.perm_append_comm
  exact hw1.perm (fun q=>hp.mem_iff) ((hp.map (·.1)).nodup_iff.2 hw1.nodup)
 have hw2r:=hw2.rest Qw
 have hJ0:J [] I (Vj H (Lr .ready none loc)):=⟨loc,h0,zyv I,rfl,hw2r.nodup,fun b o hm=>(hw2r.sepIL b o hm).2⟩
 refine (hseq g (bd+1) J Jy ?_ I _ _ (zyv I) hJ0 hw2.hideR).mono ?_
 ·
  -- a round
  intro pre x I' H' hpre hI ⟨l',hJc,_,hH,hnd,hdj⟩ lit W hW
  subst hH
  have hS1:=hW.swap hnd hdj
  have hrec:W.heap[bd+1]? =some (rec_ .ready none):=hS1.own _ _ (by simp [Lr])
  refine ⟨fn,_,assign,body,run_yield (P:=P) hrec (by simp),?_⟩
  have hfit:Km N [] ((q,en2 x)::(p,en1 x)::E) {tmps:=(a.tmps.setIfInBounds p (en1 x)).setIfInBounds q (en2 x),defers:=[]}:=by
   have h1:=(ha.put hp (en1 x)).put hq9 (en2 x)
   exact ⟨h1.size,rfl,h1.env⟩
  have hdjK:∀ b o,(b,o)∈lit→H b=none:=fun b o hm=>(UQ (hW.sepIL b o hm).2).1
  refine roundIn_of_wpIn (F:=Fence.wide) trivial ?_
  have htm:((#[p,q]:Array Tmp).zip #[en1 x,en2 x]).foldl (fun tmps (t,v)=>tmps.setIfInBounds t v) a.tmps=(a.tmps.setIfInBounds p (en1 x)).setIfInBounds q (en2 x):=by simp
  show Code.wpIn _ _ _ _ _ {tmps:=((#[p,q]:Array Tmp).zip #[en1 x,en2 x]).foldl (fun tmps (t,v)=>tmps.setIfInBounds t v) a.tmps,defers:=[]} _
  rw [htm]
  have hA:=hass (bd+1) pre x I' l' (Vj (Vj H lit) [(bd+1,rec_ .ready none),(bd,.deferred (some []))]) hpre hI hJc _ W hfit hS1.hideR
  refine wpIn_mono (F:=Fence.wide.inRound (bd+1)) (n:=0) (P:=P) (show assign.wpIn (Fence.wide.inRound (bd+1)) 0 P _ _ _ from hA) ?_
  intro e a1 W1 hq
  cases e with
  | normal=>
   obtain ⟨E2,I2,loc2,⟨hI2,hJa⟩,hf2,hs2⟩:=hq
   have hs3:St g I2 (Vj H lit) (loc2++[(bd+1,rec_ .ready none),(bd,.deferred (some []))]) W1:=St.unhide (hS1.rest Qw) hs2
   have hrec1:W1.heap[bd+1]? =some (rec_ .ready none):=hs3.own _ _ (by simp)
   have hs4:=hs3.putObj (o':=rec_ .busy none) (b:=bd+1) (QI .here)
   refine ⟨_,run_beginRound (P:=P) hrec1 rfl,?_⟩
   have hB:=hbody (bd+1) pre x E2 I2 loc2 (Vj (Vj H lit) [(bd+1,rec_ .busy none),(bd,.deferred (some []))]) hpre (hI.trans hI2) hJa a1 _ hf2 hs4.hideR
   refine wpIn_mono (F:=Fence.wide.inRound (bd+1)) (n:=0) (P:=P) (show body.wpIn (Fence.wide.inRound (bd+1)) 0 P _ _ _ from hB) ?_
   have fin:∀ (W3:World) (I3:Qu) (loc3:Loc) (jump:Option Code) (st:LoopState),St g I3 (Vj (Vj H lit) [(bd+1,rec_ .busy none),(bd,.deferred (some []))]) loc3 W3→
     (st=if jump.isNone then .ready else .done)→
     ∃ W4,(Instr.endRound (bd+1) jump).run P W3= .ok (.bool jump.isNone) W4∧St g I3 (Vj H (Lr st jump loc3)) lit W4∧((Lr st jump loc3).map (·.1)).Nodup∧∀ b o,(b,o)∈Lr st jump loc3→H b=none:=by
    intro W3 I3 loc3 jump st hs hst
    have hs5:St g I3 (Vj H lit) (loc3++[(bd+1,rec_ .busy none),(bd,.deferred (some []))]) W3:=St.unhide (hs4.rest Qw) hs
    have hrec3:W3.heap[bd+1]? =some (rec_ .busy none):=hs5.own _ _ (by simp)
    have hs6:=hs5.putObj (o':=rec_ st jump) (b:=bd+1) (QI .here)
    refine ⟨_,run_endRound (P:=P) jump hrec3,?_,hs6.nodup,fun b o hm=>(UQ (hs6.sepIL b o hm).2).1⟩
    rw [←hst]
    exact hs6.swap hW.nodup hdjK
   intro e a3 W3 hq
   cases e with
   | normal=>
    obtain ⟨I3,loc3,⟨hI3,hJ3⟩,hs⟩:=hq
    obtain ⟨W4,h1,h2,h3,h4⟩:=fin W3 I3 loc3 none .ready hs rfl
    exact ⟨_,W4,h1,true,I3,_,rfl,hI2.trans hI3,h2,loc3,hJ3,(hI.trans hI2).trans hI3,rfl,h3,h4⟩
   | ret=>
    obtain ⟨I3,loc3,⟨hI3,hJ3⟩,hs⟩:=hq
    obtain ⟨W4,h1,h2,h3,h4⟩:=fin W3 I3 loc3 (some .ret) .done hs rfl
    exact ⟨_,W4,h1,false,I3,_,rfl,hI2.trans hI3,h2,.ret,loc3,hJ3,(hI.trans hI2).trans hI3,rfl,h3,h4⟩
   | exit id=>
    obtain ⟨I3,loc3,⟨hI3,hJ3⟩,hs⟩:=hq
    obtain ⟨W4,h1,h2,h3,h4⟩:=fin W3 I3 loc3 (some (.exit id)) .done hs rfl
    exact ⟨_,W4,h1,false,I3,_,rfl,hI2.trans hI3,h2,.exit id,loc3,hJ3,(hI.trans hI2).trans hI3,rfl,h3,h4⟩
   | goto t=>exact hq.elim
   | panic c=>exact hq.elim
   | outgrown=>exact hq.elim
  | _=>exact hq.elim
 ·
  -- behind the call
  rintro e w' ⟨v,I',H',rfl,hI,hs,hJ | ⟨pre,hpre,hJ⟩⟩
  ·
   obtain ⟨l',hJc,hI1,rfl,hnd,hdj⟩:=hJ
   have hs1:=hs.swap hnd hdj
   have hrec:w'.heap[bd+1]? =some (rec_ .ready none):=hs1.own _ _ (by simp [Lr])
   have hs2:=hs1.putObj (o':=rec_ .exhausted none) (b:=bd+1) (QI .here)
   refine ⟨none,_,run_endLoop (P:=P) hrec (by simp),?_⟩
   refine hdone bd I' l' hI1 hJc _ _ ⟨ha.size,by simp [ha.defers],ha.env⟩ ?_
   refine hs2.rest (L:=[(bd+1,rec_ .exhausted none)]) ?_
   have:YE (l'++[(bd+1,rec_ .exhausted none),(bd,.deferred (some []))]) [(bd+1,rec_ .exhausted none)] (l'++[(bd,.deferred (some []))]):=by
    refine .cons ?_ .nil
    clear hdj hnd hs2 hs1 hs hJc hrec
    induction l' with
    | nil=>exact .here
    | cons q l ih=>exact .there ih
   exact this
  ·
   obtain ⟨c,l',hJc,hI1,rfl,hnd,hdj⟩:=hJ
   have hs1:=hs.swap hnd hdj
   have hrec:w'.heap[bd+1]? =some (rec_ .done (some c)):=hs1.own _ _ (by simp [Lr])
   have hs2:=hs1.putObj (o':=rec_ .exhausted (some c)) (b:=bd+1) (QI .here)
   refine ⟨some c,_,run_endLoop (P:=P) hrec (by simp),?_⟩
   refine hstop c bd pre I' l' hI1 hpre hJc _ _ ⟨ha.size,by simp [ha.defers],ha.env⟩ ?_
   refine hs2.rest (L:=[(bd+1,rec_ .exhausted (some c))]) ?_
   have:YE (l'++[(bd+1,rec_ .exhausted (some c)),(bd,.deferred (some []))]) [(bd+1,rec_ .exhausted (some c))] (l'++[(bd,.deferred (some []))]):=by
    refine .cons ?_ .nil
    clear hdj hnd hs2 hs1 hs hJc hrec
    induction l' with
    | nil=>exact .here
    | cons q l ih=>exact .there ih
   exact this
end
section
variable {P:Program} {r:Option Nat} {N:Nat} {g:World} {H:Qu} {Q:Exit→Act→World→Prop} {E E':Env} {I I':Qu} {loc loc' L R:Loc} {ms:List Nat}
theorem UV {α:Type}{gop:Operand}{p q:Nat}{assign body:Code}{f:FuncId}{cap:List Value}{K:Loc}{en1 en2:α→Value}{xs:List α}
  (Jc:List α→Qu→Loc→Prop)(Jx:Code→List α→Qu→Loc→Prop)(Ja:List α→α→Env→Qu→Loc→Prop)
  (hg:QB [] E gop=some (.func (.func f) #[] cap.toArray))(hF:Fun P f)(hseq:zrR P f cap I K en1 en2 xs)(hp:Nat.blt p N=true)(hq9:Nat.blt q N=true)(h0:Jc [] I L)
  (hass:∀ l pre x I' loc' H1,pre++[x]<+:xs→HLe I I'→Jc pre I' loc'→X ⟨P,some l,N,[],g,H1⟩ (Exit.then (Met ⟨P,some l,N,[],g,H1⟩ fun E2 I2 loc2=>HLe I' I2∧Ja pre x E2 I2 loc2) (fun _ _ _=>False)) assign ((q,en2 x)::(p,en1 x)::E) I' loc')
  (hbody:∀ l pre x E2 I2 loc2 H2,pre++[x]<+:xs→HLe I I2→Ja pre x E2 I2 loc2→X ⟨P,some l,N,[],g,H2⟩ (zaN g H2 (fun q0 I3 loc3=>HLe I2 I3∧Jc q0 I3 loc3) (fun c q0 I3 loc3=>HLe I2 I3∧Jx c q0 I3 loc3) (pre++[x])) body E2 I2 loc2)
  (hdone:∀ bd I' loc',HLe I I'→Jc xs I' loc'→At ⟨P,none,N,mk (bd::ms),g,H⟩ Q .normal E I' (loc'++MB (bd::ms)))
  (hstop:∀ c bd pre I' loc',HLe I I'→pre<+:xs→Jx c pre I' loc'→X ⟨P,none,N,mk (bd::ms),g,H⟩ Q c E I' (loc'++MB (bd::ms))):
  X ⟨P,none,N,mk ms,g,H⟩ Q (.rangeFunc gop #[p,q] assign body) E I (K++(L++MB ms)):=by
 intro a w ha hw
 have back:∀ {I':Qu} {loc':Loc} {bd:Nat} {w':World},St g I' (Vj H (MB ms)) (loc'++[(bd,.deferred (some []))]) w'→St g I' H (loc'++MB (bd::ms)) w':=fun {I' loc' bd w'} h=>by
  have h1:=St.unhide ((hw.rest Qw).rest Qw) h
  refine h1.perm (fun p=>?_) ?_
  ·
   simp only [MB,List.mem_append]
   constructor
   ·
    rintro (h | h | h)
    ·
     exact .inl (.inl h)
    ·
     exact .inr h
    ·
     exact .inl (.inr h)
   ·
    rintro ((h | h) | h)
    ·
     exact .inl h
    ·
     exact .inr (.inr h)
    ·
     exact .inr (.inl h)
  ·
   have hn:=h1.nodup
   have hpm:(loc'++MB (bd::ms)).Perm (loc'++[(bd,.deferred (some []))]++MB ms):=by
    rw [List.append_assoc]
    exact (List.Perm.refl loc').append List.perm_append_comm
   exact (hpm.map (·.1)).nodup_iff.2 hn
 refine zbN (K:=K) (P:=P) (N:=N) (D:=mk ms) (g:=g) (H:=Vj H (MB ms)) (Q:=Q) Jc Jx Ja hg hF hseq hp hq9 h0 hass hbody ?_ ?_ a w ha (show St g I (Vj H (MB ms)) (K++L) w from (show St g I H ((K++L)++MB ms) w by rw [List.append_assoc];exact hw).hideR)
 ·
  intro bd I' loc' hI hJ a' w' ha' hw'
  exact hdone bd I' loc' hI hJ a' w' ha' (back hw')
 ·
  intro c bd pre I' loc' hI hpre hJ a' w' ha' hw'
  exact hstop c bd pre I' loc' hI hpre hJ a' w' ha' (back hw')
end
end Go.Kn
namespace Go.Kn
open Go
section
variable {C:Cx} {Q:Exit→Act→World→Prop} {E E':Env} {I I' I0:Qu} {loc loc' loc0 L R:Loc} {ops:Array Oper} {rest:List Oper} {S:GS}
theorem QL {e:Exit}{b:Nat}{o:Obj}(ht:Q8 loc b o loc')(h:∀ I',HLe I I'→I' b=some o→At C Q e E I' loc'):At C Q e E I loc:=fun a w ha hw=>
 let ⟨h1,h2,h3⟩:=hw.freeze ht;h _ h2 h3 a w ha h1
theorem JA {c:Code}(h:loc=loc')(hx:X C Q c E I loc'):X C Q c E I loc:=h ▸ hx
theorem zrN (i j k m:Nat){oi oj ok om:Oper}{fuel:Nat}{listed:Array Bool}(hi:ops[i]? =some oi)(hj:ops[j]? =some oj)(hk:ops[k]? =some ok)(hm:ops[m]? =some om)(hr:Region.ready .any ops listed=[i,j,k,m])
  (h1:XO C (fun e a w=>match e with | .normal=>St C.g I0 C.H loc0 w∧YF C.r C.P .any ops Q (fun w=>St C.g I0 C.H loc0 w) fuel (listed.setIfInBounds i true) a w | e=>Q e a w) ops [oi] S E I loc)
  (h2:XO C (fun e a w=>match e with | .normal=>St C.g I0 C.H loc0 w∧YF C.r C.P .any ops Q (fun w=>St C.g I0 C.H loc0 w) fuel (listed.setIfInBounds j true) a w | e=>Q e a w) ops [oj] S E I loc)
  (h3:XO C (fun e a w=>match e with | .normal=>St C.g I0 C.H loc0 w∧YF C.r C.P .any ops Q (fun w=>St C.g I0 C.H loc0 w) fuel (listed.setIfInBounds k true) a w | e=>Q e a w) ops [ok] S E I loc)
  (h4:XO C (fun e a w=>match e with | .normal=>St C.g I0 C.H loc0 w∧YF C.r C.P .any ops Q (fun w=>St C.g I0 C.H loc0 w) fuel (listed.setIfInBounds m true) a w | e=>Q e a w) ops [om] S E I loc):XD C Q ops I0 loc0 (fuel+1) listed S E I loc:=by
 intro a w ha hg hw
 refine ⟨(fun h0=>by rw [hr] at h0;cases h0),fun q hq=>?_⟩
 rw [hr] at hq
 rcases List.mem_cons.1 hq with e | hq
 ·
  subst e;exact Xu hi ha hg hw h1
 ·
  rcases List.mem_cons.1 hq with e | hq
  ·
   subst e;exact Xu hj ha hg hw h2
  ·
   rcases List.mem_cons.1 hq with e | hq
   ·
    subst e;exact Xu hk ha hg hw h3
   ·
    obtain rfl:=List.mem_singleton.1 hq;exact Xu hm ha hg hw h4
end
end Go.Kn
end
namespace Go.Proofs.YtodakphagkommaaGreatDoor
section
open Go Go.Kn Go.Proofs
theorem zg1:Fun Tryz.prog 105:=.of Tryz.func105 (by kernel_rfl) (by kernel_rfl)
theorem ze9:ScT Tryz.prog 41:=.of (by kernel_rfl)
theorem K9:SlT Tryz.prog 41 79 2:=.of (by kernel_rfl)
theorem ziJ:SzT Tryz.prog 79 2:=.of (by kernel_rfl)
theorem zjc (I:Qu)(av:Option Addr)(n c:Nat):Yc Tryz.prog 61 [.slice av n c] I [] (fun v I' L=>L=[]∧∃ b1,v= .func (.func 105) #[] [Za b1].toArray∧I' b1=some (.cells #[.slice av n c] 41 (0,0))):=by
 intro g H w hw
 refine qe Tryz.func61 Tryz.ntmps61 hw ?_
 have hIc:=zyv I
 refine zR ?_
 refine Q5 rfl rfl rfl (fun b_1=>?_)
 refine zA (zN (Ql ?_))
 refine Ze .here (fun I1 hI1 hb1=>?_)
 have hIc:=hIc.trans hI1
 have h1:=hb1
 refine Qg ?_
 refine zV (Zb (us:=[]) (vs:=[_]) rfl rfl) ?_
 refine zA (zN (Qs ?_))
 exact Zt rfl rfl (fun w hw=>⟨_,I1,[],rfl,hIc,hw.drop,rfl,b_1,rfl,h1⟩)
theorem zg9 {I:Qu}{av:Option Addr}{n c:Nat}{ps:List (Int×Int)}(hS:Sl I 2 VO av n c ps)(hn9:n≤1000000)(hps:∀ p∈ps, -1000000≤p.2∧p.2≤1000000){b1:Nat}(h1:I b1=some (.cells #[.slice av n c] 41 (0,0))):zrR Tryz.prog 105 [Za b1] I [] zxl zw1 (zhx ps):=by
 intro g y J Jx hY I0 H w h0 hJ hw
 have hS:=hS.mono h0
 have h1:=h0 _ _ h1
 refine qe Tryz.func105 Tryz.ntmps105 hw ?_
 have hSl:=hS.len
 subst hSl
 refine zR (zA ?_)
 refine zN (zR ?_)
 refine zV (Qd rfl ze9 (fun hg=>by exact QV.imm h1 rfl)) ?_
 refine zQ K9 ?_
 refine zM (zN (Qm ?_))
 refine zdw (fun m E I' H' loc'=>∃ (k:Nat) (a:Int) (pre:List (Int×Int)),m=ps.length-k∧E=[(0,.func (.yield y) #[] #[]),(1,Za b1),(3,.int .i64 a),(6,.slice av ps.length c),(7,.int .i64 ps.length),(8,.int .i64 k)]∧loc'=[]∧HLe I0 I'∧k≤ps.length∧J pre I' H'∧zhx ps=pre++zaj a (ps.drop k)) _ _ _ ⟨0,0,[],rfl,rfl,rfl,zyv _,Nat.zero_le _,hJ,rfl⟩ (.cons rfl (.cons rfl (.cons rfl (.cons rfl (.cons rfl (.cons rfl .nil)))))) rfl ?_
 rintro m E I' H' loc' ⟨k,a,pre,rfl,rfl,rfl,hI1,hk,hJk,hal⟩
 have hS:=hS.mono hI1
 have h1:=hI1 _ _ h1
 have hI0:=h0.trans hI1
 refine zR (zC (zN (Ql ?_)))
 refine zI ?_ ?_<;>intro hc9
 ·
  have hlt:k<ps.length:=by have h:=hc9;simp at h;omega
  obtain ⟨p,hp⟩:=hS.at hlt
  refine Qo (Qa (Ql (Qm (zR ?_))))
  refine zV (zX K9 hS) ?_
  refine zV (Qp rfl zaG (fun hg=>by exact zyw hS hp) rfl) ?_
  refine Qr KI rfl rfl (fun b_5=>?_)
  refine zh ziJ ?_
  refine zN (zR ?_)
  refine zV (Zp rfl rfl YN (fun hg=>by decide)) ?_
  refine zL Qt ?_
  refine zC (zN ?_)
  refine zI ?_ ?_<;>intro hc14
  ·
   refine Qg ?_
   refine zV (Zp rfl rfl YN (fun hg=>by decide)) ?_
   refine zL Qt ?_
   refine zA (Qb (Qh (Qa (Qg ?_))))
   refine zB ?_
   refine zM (Qb ?_)
   exact Xm rfl rfl rfl _ [] ⟨ps.length-(k+1),by omega,k+1,p.1,pre,rfl,rfl,rfl,hI1,by omega,hJk,by rw [hal,zqW hp hc14]⟩ (.cons rfl (.cons rfl (.cons rfl (.cons rfl (.cons rfl (.cons rfl .nil)))))) (.drop .refl)
  have hpre2:=zoC hal hp hc14
  refine zR (zM ?_)
  refine zM ?_
  refine zV (Zp rfl rfl YN (fun hg=>by decide)) ?_
  refine zL Qt ?_
  refine zV (ZS rfl rfl rfl (fun _=>by (have hp9:=hps p (List.mem_of_getElem? hp);omega))) ?_
  refine zcf (vs:=[_,_]) (Post:=fun b I2 H2=>if b then J (pre++[(a,p.2-1)]) I2 H2 else Jx (pre++[(a,p.2-1)]) I2 H2) rfl rfl rfl rfl (hY pre (a,p.2-1) _ _ hpre2 hI0 hJk) ?_
  rintro t I2 H2 hI2 hP2
  refine zO (zN ?_)
  refine zI ?_ ?_<;>intro hc23
  ·
   have ht:t=false:=by simpa using hc23
   subst ht
   have hJ2:Jx (pre++[(a,p.2-1)]) I2 H2:=hP2
   refine Qs (Qn (Qc (Qc (Qn ?_))))
   exact YJ rfl (fun w hw=>⟨_,I2,H2,rfl,hI1.trans hI2,hw.drop,.inr ⟨_,hpre2,hJ2⟩⟩)
  have ht:t=true:=by simpa using hc23
  subst ht
  have hJ2:J (pre++[(a,p.2-1)]) I2 H2:=hP2
  refine Qo (Qh (Qa (Qg (zB ?_))))
  refine zM (Qb ?_)
  first
  | exact Xm rfl rfl rfl _ [] ⟨ps.length-(k+1),by omega,k+1,a,pre++[(a,p.2-1)],rfl,rfl,rfl,hI1.trans hI2,by omega,hJ2,by rw [hal,zop hp hc14,List.append_assoc];rfl⟩ (.cons rfl (.cons rfl (.cons rfl (.cons rfl (.cons rfl (.cons rfl .nil)))))) (.drop .refl)
 have hge:ps.length≤k:=by have h:=hc9;simp at h;omega
 refine QH (Qe (Qe (Qk ?_)))
 first
 | exact Vp (YJ rfl (fun w hw=>⟨_,I',H',rfl,hI1,hw,.inl (by rw [zpZ hal hge];exact hJk)⟩))
end
section
open Go Go.Kn Go.Proofs
/-! ### Lists as functions -/
def Ve (n:Nat)(f:Nat→Int):List Int:=(List.range n).map f
def Ut {β:Type}(f:Nat→β)(a:Nat)(v:β):Nat→β:=fun j=>if j=a then v else f j
def Yz (f:Nat→Nat):Nat→Int:=fun j=>((f j:Nat):Int)
theorem Z9 {n:Nat}{f:Nat→Int}:(Ve n f).length=n:=by unfold Ve;simp
theorem Yy {n a:Nat}{f:Nat→Int}(h:a<n):(Ve n f)[a]? =some (f a):=by unfold Ve;simp [h]
theorem KG {β:Type}{f:Nat→β}{a:Nat}{v:β}:Ut f a v a=v:=if_pos rfl
theorem XB {β:Type}{f:Nat→β}{a j:Nat}{v:β}(h:j≠a):Ut f a v j=f j:=if_neg h
theorem Ju {n a:Nat}{f:Nat→Int}{v:Int}:(Ve n f).set a v=Ve n (Ut f a v):=by
 apply List.ext_getElem?
 intro j
 rw [List.getElem?_set]
 by_cases hj:j<n
 ·
  rw [Yy hj,Yy hj,Z9]
  by_cases h:a=j
  ·
   subst h;rw [KG];simp [hj]
  ·
   rw [if_neg h,XB (Ne.symm h)]
 ·
  rw [List.getElem?_eq_none (l:=Ve n (Ut f a v)) (by rw [Z9];omega),Z9]
  by_cases h:a=j
  ·
   subst h;simp [hj]
  ·
   rw [if_neg h,List.getElem?_eq_none (by rw [Z9];omega)]
theorem Zd {n:Nat}:List.replicate n (0:Int)=Ve n (fun _=>0):=by
 apply List.ext_getElem?
 intro j
 unfold Ve
 by_cases h:j<n<;>simp [h]
theorem zaf {f:Nat→Nat}{a v:Nat}:Ut (Yz f) a (v:Int)=Yz (Ut f a v):=by
 funext j
 by_cases h:j=a
 ·
  subst h;rw [KG];unfold Yz;rw [KG]
 ·
  rw [XB h];unfold Yz;rw [XB h]
theorem Uz:(fun _=>0:Nat→Int)=Yz (fun _=>0):=by funext j;rfl
theorem zkO {a b:Nat}:zlk (a:Int) (b:Int)=((max a b:Nat):Int):=by unfold zlk;split<;>omega
/-! ### Counts -/
def cnt (pre:List (Int×Int)):Nat→Nat:=pre.foldl (fun c q=>Ut c q.1.toNat (c q.1.toNat+1)) (fun _=>0)
theorem U3 {pre:List (Int×Int)}{q:Int×Int}:cnt (pre++[q])=Ut (cnt pre) q.1.toNat (cnt pre q.1.toNat+1):=by unfold cnt;rw [List.foldl_append];rfl
theorem zed {pre:List (Int×Int)}{q:Int×Int}{a:Nat}(h:q.1.toNat=a):cnt (pre++[q]) a=cnt pre a+1:=by rw [U3,h];unfold Ut;rw [if_pos rfl]
theorem zsi {pre:List (Int×Int)}{q:Int×Int}{a:Nat}:cnt pre a≤cnt (pre++[q]) a:=by
 rw [U3];unfold Ut;split
 ·
  rename_i h;subst h;omega
 ·
  exact Nat.le_refl _
theorem zrL (pre:List (Int×Int))(a:Nat):∀ (r:Nat) (qs:List (Int×Int)),qs.length≤r→cnt pre a≤cnt (pre++qs) a:=by
 intro r qs _
 induction qs generalizing pre with
 | nil=>simp
 | cons q qs ih=>
  have h1:=ih (pre++[q]) (by simp at*;omega)
  rw [List.append_assoc] at h1
  exact Nat.le_trans zsi h1
theorem zp6 {pre xs:List (Int×Int)}{a:Nat}(h:pre<+:xs):cnt pre a≤cnt xs a:=by
 obtain ⟨qs,rfl⟩:=h;exact zrL pre a qs.length qs (Nat.le_refl _)
theorem ziH (qs:List (Int×Int)):∀ (c:Nat→Nat) (a:Nat),(qs.foldl (fun c q=>Ut c q.1.toNat (c q.1.toNat+1)) c) a≤c a+qs.length:=by
 induction qs with
 | nil=>intro c a;simp
 | cons q qs ih=>
  intro c a
  rw [List.foldl_cons]
  have h:=ih (Ut c q.1.toNat (c q.1.toNat+1)) a
  have h2:Ut c q.1.toNat (c q.1.toNat+1) a≤c a+1:=by unfold Ut;split<;>(try (rename_i e;subst e))<;>omega
  rw [List.length_cons];omega
theorem zd8 {pre:List (Int×Int)}{a:Nat}:cnt pre a≤pre.length:=by
 have h:=ziH pre (fun _=>0) a
 unfold cnt;omega
/-! ### How wide the places are -/
def wmx (w:Nat→Nat)(pre:List (Int×Int)):Nat→Nat:=fun a=>max (w a) (cnt pre a)
def wdF (al:Nat→List (Int×Int)):Nat→Nat→Nat
 | 0=>fun _=>0
 | i+1=>wmx (wdF al i) (al i)
theorem zgL {w:Nat→Nat}:wmx w []=w:=by funext a;unfold wmx;show max (w a) 0=w a;omega
theorem zmn {w:Nat→Nat}{pre:List (Int×Int)}{q:Int×Int}{a:Nat}(h:q.1.toNat=a):Ut (wmx w pre) a (max (wmx w pre a) (cnt (pre++[q]) a))=wmx w (pre++[q]):=by
 funext j
 unfold Ut
 split
 ·
  rename_i e;subst e
  rw [zed h]
  show max (max (w j) (cnt pre j)) (cnt pre j+1)=max (w j) (cnt (pre++[q]) j)
  rw [zed h];omega
 ·
  rename_i e
  show max (w j) (cnt pre j)=max (w j) (cnt (pre++[q]) j)
  rw [U3,h];unfold Ut;rw [if_neg e]
theorem zrt {al:Nat→List (Int×Int)}(h:al 0=[]):wdF al 1=fun _=>0:=by
 show wmx (wdF al 0) (al 0)=_
 rw [h,zgL];rfl
theorem zfO {al:Nat→List (Int×Int)}{B:Nat}(h:∀ j,(al j).length≤B):∀ (i a:Nat),wdF al i a≤B
 | 0,a=>Nat.zero_le _
 | i+1,a=>by
  show max (wdF al i a) (cnt (al i) a)≤B
  have h1:=zfO h i a
  have h2:=@zd8 (al i) a
  have h3:=h i
  omega
theorem zmT {al:Nat→List (Int×Int)}{j:Nat}:∀ {i a:Nat},j<i→cnt (al j) a≤wdF al i a
 | 0,_,h=>by omega
 | i+1,a,h=>by
  show _≤max (wdF al i a) (cnt (al i) a)
  by_cases e:j=i
  ·
   subst e;omega
  ·
   have:=zmT (al:=al) (a:=a) (show j<i by omega);omega
/-! ### Where the places begin -/
def VN (w:Nat→Nat):Nat→Nat
 | 0=>0
 | k+1=>VN w k+(w k+1)
theorem zdW {w:Nat→Nat}{B:Nat}(h:∀ a,w a≤B):∀ k,VN w k≤k*(B+1)
 | 0=>Nat.zero_le _
 | k+1=>by
  have h1:=zdW h k
  have h2:=h k
  show VN w k+(w k+1)≤_
  rw [Nat.add_mul];omega
theorem za2 {w:Nat→Nat}{k:Nat}:∀ {j:Nat},k<j→VN w k+w k+1≤VN w j
 | 0,h=>by omega
 | j+1,h=>by
  show _≤VN w j+(w j+1)
  by_cases e:k=j
  ·
   subst e;omega
  ·
   have:=za2 (w:=w) (show k<j by omega);omega
theorem zib {w:Nat→Nat}:∀ k,k≤VN w k
 | 0=>Nat.le_refl _
 | k+1=>by have:=zib (w:=w) k;show k+1≤VN w k+(w k+1);omega
def atK (w:Nat→Nat)(k:Nat):Nat→Nat:=fun j=>if j<k then VN w j else 0
theorem zmv {w:Nat→Nat}:atK w 0=fun _=>0:=by funext j;unfold atK;simp
theorem zkW {w:Nat→Nat}{k:Nat}:Ut (atK w k) k (VN w k)=atK w (k+1):=by
 funext j
 unfold Ut atK
 by_cases e:j=k
 ·
  subst e;rw [if_pos rfl,if_pos (by omega)]
 ·
  rw [if_neg e]
  by_cases h:j<k
  ·
   rw [if_pos h,if_pos (by omega)]
  ·
   rw [if_neg h,if_neg (by omega)]
theorem zqM {w:Nat→Nat}{n:Nat}:Ve n (Yz (atK w n))=Ve n (Yz (VN w)):=by
 unfold Ve
 refine List.map_congr_left fun j hj=>?_
 unfold Yz atK
 rw [if_pos (List.mem_range.1 hj)]
/-! ### Rows -/
def txF (w:Nat→Nat)(T:List Int):Nat→Nat→Int
 | 0=>fun _=>0
 | k+1=>Ut (txF w T k) (VN w k+w k) (T.getD k 0)
def prF (w:Nat→Nat)(l:List Int)(f:Nat→Int)(y:Int×Int):Nat→Int:=
 if (decide (y.1>0)&&decide (y.2>0))=true then Ut f (VN w (y.1-1).toNat+w (y.1-1).toNat) (l.getD (y.2-1).toNat 0) else f
def alS (w:Nat→Nat)(l:List Int)(s:(Nat→Int)×(Nat→Nat))(q:Int×Int):(Nat→Int)×(Nat→Nat):=
 (Ut s.1 (VN w q.1.toNat+s.2 q.1.toNat) (l.getD q.2.toNat 0),Ut s.2 q.1.toNat (s.2 q.1.toNat+1))
def alP (w:Nat→Nat)(l:List Int)(f:Nat→Int)(pre:List (Int×Int)):(Nat→Int)×(Nat→Nat):=pre.foldl (alS w l) (f,fun _=>0)
theorem zpw {w:Nat→Nat}{l:List Int}{f:Nat→Int}{pre:List (Int×Int)}:(alP w l f pre).2=cnt pre:=by
 have key:∀ (f:Nat→Int) (c:Nat→Nat),(pre.foldl (alS w l) (f,c)).2=pre.foldl (fun c q=>Ut c q.1.toNat (c q.1.toNat+1)) c:=by
  induction pre with
  | nil=>intro f c;rfl
  | cons q pre ih=>intro f c;rw [List.foldl_cons,List.foldl_cons];exact ih _ _
 exact key f _
theorem zlU {w:Nat→Nat}{l:List Int}{f:Nat→Int}{pre:List (Int×Int)}{q:Int×Int}:(alP w l f (pre++[q])).1=Ut (alP w l f pre).1 (VN w q.1.toNat+cnt pre q.1.toNat) (l.getD q.2.toNat 0):=by
 rw [←zpw (w:=w) (l:=l) (f:=f)]
 unfold alP
 rw [List.foldl_append];rfl
def zqp (w:Nat→Nat)(T l:List Int)(i:Nat)(ps:List (Int×Int)):Nat→Int:=
 (alP w l (ps.foldl (prF w l) (if i=0 then txF w T T.length else fun _=>0)) (zhx ps)).1
theorem zex {w:Nat→Nat}{l:List Int}{f:Nat→Int}{ps:List (Int×Int)}{k:Nat}{y:Int×Int}(hy:ps[k]? =some y):(ps.take (k+1)).foldl (prF w l) f=prF w l ((ps.take k).foldl (prF w l) f) y:=by
 rw [List.take_add_one,hy,List.foldl_append];rfl
/-! ### A table -/
def ztP (x:Wr):List Int:=x.rs.map Kq
def csW (xs:List Wr)(i:Nat):List Int:=((xs[i]?).map ztP).getD []
def pfW (xs:List Wr)(i:Nat):List (Int×Int):=if i=0 then [] else VR (csW xs 0) (csW xs i)
def alW (xs:List Wr)(i:Nat):List (Int×Int):=zhx (pfW xs i)
def wdW (xs:List Wr):Nat→Nat:=wdF (alW xs) xs.length
def loW (xs:List Wr):Nat:=VN (wdW xs) ((csW xs 0).length+1)-1
def zoQ (xs:List Wr)(i:Nat):List Int:=Ve (loW xs) (zqp (wdW xs) (csW xs 0) (csW xs i) i (pfW xs i))
def zai (xs:List Wr):Int:=if (WR xs != 0||xs.length==0)=true then WR xs else if loW xs>256 then 2 else 0
def Uw (xs:List Wr):List (List Int):=if (WR xs != 0||xs.length==0)=true∨loW xs>256 then [] else (List.range xs.length).map (zoQ xs)
theorem zoJ {xs:List Wr}(h:(WR xs != 0||xs.length==0)=true):zai xs=WR xs∧Uw xs=[]:=by unfold zai Uw;rw [if_pos h,if_pos (.inl h)];exact ⟨rfl,rfl⟩
theorem zwj {xs:List Wr}(h:(WR xs != 0||xs.length==0)=false)(h2:loW xs>256):zai xs=2∧Uw xs=[]:=by unfold zai Uw;rw [if_neg (by rw [h];decide),if_pos h2,if_pos (.inr h2)];exact ⟨rfl,rfl⟩
theorem zxM {xs:List Wr}(h:(WR xs != 0||xs.length==0)=false)(h2:¬loW xs>256):zai xs=0∧Uw xs=(List.range xs.length).map (zoQ xs):=by unfold zai Uw;rw [if_neg (by rw [h];decide),if_neg h2,if_neg (by rw [h];simp;omega)];exact ⟨rfl,rfl⟩
theorem zfv {xs:List Wr}{i:Nat}{x:Wr}(h:xs[i]? =some x):csW xs i=x.rs.map Kq:=by unfold csW;rw [h];rfl
theorem zkA {xs:List Wr}:alW xs 0=[]:=rfl
/-! ### What lies in alignments -/
def QOK (m n:Nat)(p:Int×Int):Prop:=∃ i k:Nat,p=((i:Int),(k:Int))∧i≤m∧k≤n∧(0<i∨0<k)
theorem zkH {a b:List Int}:∀ (f i k:Nat),i≤a.length→k≤b.length→(∀ p∈paF a b f i k,QOK a.length b.length p)∧(paF a b f i k).length≤f
 | 0,_,_,_,_=>⟨(fun p hp=>by cases hp),Nat.le_refl _⟩
 | f+1,i,k,hi,hk=>by
  unfold paF
  split
  ·
   rename_i hg
   split
   ·
    rename_i hb
    have h1:i<a.length∧k<b.length:=by unfold WV at hb;simp at hb;omega
    have ih:=zkH f (i+1) (k+1) h1.1 h1.2
    refine ⟨fun p hp=>?_,by rw [List.length_cons];omega⟩
    rcases List.mem_cons.1 hp with rfl | hp
    ·
     exact ⟨i+1,k+1,rfl,h1.1,h1.2,by omega⟩
    ·
     exact ih.1 p hp
   ·
    rename_i hb
    split
    ·
     rename_i ho
     have h1:i<a.length:=by unfold zgE at ho;simp at ho;omega
     have ih:=zkH f (i+1) k h1 hk
     refine ⟨fun p hp=>?_,by rw [List.length_cons];omega⟩
     rcases List.mem_cons.1 hp with rfl | hp
     ·
      exact ⟨i+1,0,rfl,h1,Nat.zero_le _,by omega⟩
     ·
      exact ih.1 p hp
    ·
     rename_i ho
     have h1:k<b.length:=zhw hi hk (by simp at hg;omega) (by simpa using hb) (by simpa using ho)
     have ih:=zkH f i (k+1) hi h1
     refine ⟨fun p hp=>?_,by rw [List.length_cons];omega⟩
     rcases List.mem_cons.1 hp with rfl | hp
     ·
      exact ⟨0,k+1,rfl,Nat.zero_le _,h1,by omega⟩
     ·
      exact ih.1 p hp
  ·
   exact ⟨(fun p hp=>by cases hp),Nat.zero_le _⟩
theorem zcg {a b:List Int}:(∀ p∈VR a b,QOK a.length b.length p)∧(VR a b).length≤a.length+b.length:=by
 unfold VR
 split
 ·
  exact ⟨(fun p hp=>by cases hp),Nat.zero_le _⟩
 ·
  exact zkH _ 0 0 (Nat.zero_le _) (Nat.zero_le _)
theorem zgZ {m n:Nat}:∀ (ps:List (Int×Int)) (a:Nat),a≤m→(∀ p∈ps,QOK m n p)→(∀ q∈zaj (a:Int) ps,∃ c r:Nat,q=((c:Int),(r:Int))∧c≤m∧r<n)∧(zaj (a:Int) ps).length≤ps.length
 | [],_,_,_=>⟨(fun q hq=>by cases hq),Nat.le_refl _⟩
 | p::ps,a,ha,h=>by
  obtain ⟨i,k,rfl,hi,hk,h0⟩:=h p (List.mem_cons_self ..)
  unfold zaj
  split
  ·
   have ih:=zgZ ps i hi fun p hp=>h p (List.mem_cons_of_mem _ hp)
   exact ⟨ih.1,Nat.le_succ_of_le ih.2⟩
  ·
   rename_i hn
   have hi0:i=0:=by simp at hn;omega
   have ih:=zgZ ps a ha fun p hp=>h p (List.mem_cons_of_mem _ hp)
   refine ⟨fun q hq=>?_,by rw [List.length_cons,List.length_cons];omega⟩
   rcases List.mem_cons.1 hq with rfl | hq
   ·
    exact ⟨a,k-1,by simp;omega,ha,by omega⟩
   ·
    exact ih.1 q hq
theorem X5 {xs:List Wr}{i:Nat}:(∀ p∈pfW xs i,QOK (csW xs 0).length (csW xs i).length p)∧(pfW xs i).length≤(csW xs 0).length+(csW xs i).length:=by
 unfold pfW
 split
 ·
  exact ⟨(fun p hp=>by cases hp),Nat.zero_le _⟩
 ·
  exact zcg
theorem zm1 {xs:List Wr}{i:Nat}:(∀ q∈alW xs i,∃ c r:Nat,q=((c:Int),(r:Int))∧c≤(csW xs 0).length∧r<(csW xs i).length)∧(alW xs i).length≤(csW xs 0).length+(csW xs i).length:=by
 have h:=zgZ (pfW xs i) 0 (Nat.zero_le _) (X5 (xs:=xs) (i:=i)).1
 exact ⟨h.1,Nat.le_trans h.2 X5.2⟩
theorem WA {xs:List Wr}{i B:Nat}(h:∀ x∈xs,x.rs.length≤B):(csW xs i).length≤B:=by
 unfold csW
 cases hx:xs[i]? with
 | none=>exact Nat.zero_le _
 | some x=>
  have:=h x (List.mem_of_getElem? hx)
  show (x.rs.map Kq).length≤B
  rw [List.length_map];exact this
def PrQ (I:Qu)(xs:List Wr)(hs:List Hd)(i:Nat):Prop:=∀ j,j<i→∃ h,hs[j]? =some h∧h.n=(pfW xs j).length∧Sl I 2 VO h.a h.n h.c (pfW xs j)
theorem PrQ.mono {I I':Qu}{xs:List Wr}{hs:List Hd}{i:Nat}(h:PrQ I xs hs i)(hI:HLe I I'):PrQ I' xs hs i:=fun j hj=>by
 obtain ⟨x,h1,h2,h3⟩:=h j hj;exact ⟨x,h1,h2,h3.mono hI⟩
theorem PrQ.start {I:Qu}{xs:List Wr}{n:Nat}(hn:0<n):PrQ I xs (List.replicate n ⟨none,0,0⟩) 1:=fun j hj=>by
 obtain rfl:j=0:=by omega
 exact ⟨_,by simp [hn];rfl,rfl,.nil⟩
theorem PrQ.put {I:Qu}{xs:List Wr}{hs:List Hd}{i:Nat}{a:Option Addr}{n c:Nat}(h:PrQ I xs hs i)(hi:0<i)(hil:i<hs.length)(hS:Sl I 2 VO a n c (VR (csW xs 0) (csW xs i))):PrQ I xs (hs.set i ⟨a,n,c⟩) (i+1):=fun j hj=>by
 have hp:pfW xs i=VR (csW xs 0) (csW xs i):=by unfold pfW;rw [if_neg (by omega)]
 by_cases e:j=i
 ·
  subst e
  exact ⟨⟨a,n,c⟩,by rw [List.getElem?_set_self hil],by rw [hp];exact hS.len.symm,by rw [hp];exact hS⟩
 ·
  obtain ⟨x,h1,h2,h3⟩:=h j (by omega)
  exact ⟨x,by rw [List.getElem?_set_ne (Ne.symm e)];exact h1,h2,h3⟩
end
section
open Go Go.Kn Go.Proofs
theorem Ud (row:List Int)(m:Nat)(b:Int):(Zh row).setIfInBounds (m*1) (.int .i64 b)=Zh (row.set m b):=by
 unfold Zh
 rw [Jl,Jl,Nat.mul_one,List.setIfInBounds_toArray,List.map_set]
theorem ztr {row:List Int}{m:Nat}(h:m<row.length):Nat.blt (m*1) (Zh row).size=true:=by
 unfold Zh
 rw [Jl,Nat.mul_one]
 simpa [Nat.blt_eq] using h
theorem zlz {I:Qu}{b t k:Nat}{hs:List Hd}{h:Hd}{l:Go.Kn.Loc}(e:hs[k]? =some h):QV I ((b,.cells (VH hs) t (0,0))::l) b (k*1) (.slice h.a h.n h.c):=by
 refine .here ?_
 rw [Y3]
 unfold VH
 rw [XW,Nat.mul_one]
 simp [e]
theorem Cells.imm {I:Qu}{b t:Nat}{vs:List Value}{fz:Nat×Nat}{l:Go.Kn.Loc}(h:I b=some (.cells vs.toArray t fz)):Cells I l b 0 vs:=fun j v hj=>.imm h (by rw [Y3,Nat.zero_add];simpa using hj)
theorem zjg {xs:List Wr}(h:(WR xs != 0||xs.length==0)=false):WR xs=0∧0<xs.length∧xs.length≤24∧∀ x∈xs,x.rs.length≤64:=by
 have h1:WR xs=0∧¬xs.length=0:=by simpa using h
 obtain ⟨h1,h2⟩:=h1
 unfold WR at h1
 split at h1
 ·
  cases h1
 ·
  rename_i h3
  split at h1
  ·
   cases h1
  ·
   rename_i h4
   refine ⟨by unfold WR;rw [if_neg h3,if_neg h4];exact h1,by omega,by omega,fun x hx=>?_⟩
   have h5:xs.any (fun x=>decide (x.rs.length>64))=false:=by simpa using h4
   have:=List.any_eq_false.1 h5 x hx
   simp at this;omega
theorem znt {xs:List Wr}{i:Nat}{q:Int×Int}{pre:List (Int×Int)}(h:pre++[q]<+:alW xs i):0≤q.1∧q.1.toNat<(csW xs 0).length+1∧0≤q.2∧q.2.toNat<(csW xs i).length∧cnt pre q.1.toNat<cnt (alW xs i) q.1.toNat:=by
 obtain ⟨c,r,rfl,h1,h2⟩:=zm1.1 q (h.subset (by simp))
 have h3:=zp6 (a:=((c:Int),(r:Int)).1.toNat) h
 rw [zed rfl] at h3
 exact ⟨by simp,by simp;omega,by simp,by simpa using h2,h3⟩
theorem zh7 {xs:List Wr}(h:∀ x∈xs,x.rs.length≤64)(i:Nat):(alW xs i).length≤128:=by
 have h1:=(zm1 (xs:=xs) (i:=i)).2
 have h2:=WA (i:=0) h
 have h3:=WA (i:=i) h
 omega
theorem zsY {xs:List Wr}{i k:Nat}{y:Int×Int}(h:(pfW xs i)[k]? =some y):0≤y.1∧y.1≤(csW xs 0).length∧0≤y.2∧y.2≤(csW xs i).length:=by
 obtain ⟨a,b,rfl,h1,h2,_⟩:=X5.1 y (List.mem_of_getElem? h)
 simp;omega
theorem zsZ {xs:List Wr}(hb:∀ x∈xs,x.rs.length≤64)(i:Nat):∀ p∈pfW xs i, -1000000≤p.2∧p.2≤1000000:=fun p hp=>by
 obtain ⟨a,b,rfl,h1,h2,_⟩:=X5.1 p hp
 have:=WA (i:=i) hb
 simp;omega
theorem znm {xs:List Wr}{k:Nat}(h:k<(csW xs 0).length):VN (wdW xs) k+wdW xs k<loW xs:=by
 have h1:=za2 (w:=wdW xs) (show k<k+1 by omega)
 have h2:=za2 (w:=wdW xs) (show k+1<(csW xs 0).length+1 by omega)
 have h3:VN (wdW xs) (k+1)=VN (wdW xs) k+(wdW xs k+1):=rfl
 unfold loW;omega
theorem zor {xs:List Wr}{a i c:Nat}(ha:a<(csW xs 0).length+1)(hi:i<xs.length)(hc:c<cnt (alW xs i) a):VN (wdW xs) a+c<loW xs:=by
 have h1:=za2 (w:=wdW xs) ha
 have h2:cnt (alW xs i) a≤wdW xs a:=zmT hi
 unfold loW;omega
theorem zxt {xs:List Wr}:((VN (wdW xs) ((csW xs 0).length+1):Nat):Int)-1=((loW xs:Nat):Int):=by
 have:=zib (w:=wdW xs) ((csW xs 0).length+1)
 unfold loW;omega
theorem zgM {w:Nat→Nat}{l:List Int}{f:Nat→Int}{y:Int×Int}(h:(decide (y.1>0)&&decide (y.2>0))=true):prF w l f y=Ut f (VN w (y.1-1).toNat+w (y.1-1).toNat) (l.getD (y.2-1).toNat 0):=by unfold prF;rw [if_pos h]
theorem znz {w:Nat→Nat}{l:List Int}{f:Nat→Int}{y:Int×Int}(h:(decide (y.1>0)&&decide (y.2>0))=false):prF w l f y=f:=by unfold prF;rw [if_neg (by rw [h];decide)]
theorem zml {f g:Nat→Nat}{a:Nat}:zlk (Yz f a) (Yz g a)=((max (f a) (g a):Nat):Int):=zkO
theorem zbC {f:Nat→Nat}{a B:Nat}(h:f a≤B):0≤Yz f a∧Yz f a≤(B:Int):=by unfold Yz;omega
theorem zes {n:Nat}:((n:Int)==0)=(n==0):=by rw [Bool.eq_iff_iff];simp
end
section
open Go Go.Kn Go.Proofs
theorem zvy:Fun Tryz.prog 58:=.of Tryz.func58 (by kernel_rfl) (by kernel_rfl)
theorem Vi:Fun Tryz.prog 59:=.of Tryz.func59 (by kernel_rfl) (by kernel_rfl)
theorem zr6:Fun Tryz.prog 60:=.of Tryz.func60 (by kernel_rfl) (by kernel_rfl)
theorem znR:Fun Tryz.prog 61:=.of Tryz.func61 (by kernel_rfl) (by kernel_rfl)
theorem zo1:MkT Tryz.prog 133 41 24 (.slice none 0 0):=⟨by kernel_rfl,by kernel_rfl,rfl⟩
theorem zbv:SlT Tryz.prog 133 41 1:=.of (by kernel_rfl)
theorem zt5:SzT Tryz.prog 41 1:=.of (by kernel_rfl)
set_option maxHeartbeats 40000000 in
theorem zhK {I:Qu} {av:Option Addr} {n c:Nat} {xs:List Wr} (hW0:SlW I av n c xs) (hn:n≤100000):Yc Tryz.prog 27 [.slice av n c] I [] (zaI (zai xs) (Uw xs)):=by
 intro g H w hw
 refine zeq Tryz.func27 rfl Tryz.ntmps27 rfl hw ?_
 have hIc:=zyv I
 obtain ⟨ws,hW⟩:=id hW0
 have hH:=hW.1
 have hlW:=hW.len
 subst hlW
 refine zR (zA ?_)
 refine zA (zN (Ql (zR ?_)))
 refine zM ?_
 refine qc (vs:=[_]) rfl zvy (ztW hW0 hn) ?_
 refine zA ?_
 refine zN (zR ?_)
 refine zM ?_
 refine zC ?_
 refine zM ?_
 refine Q0 2 rfl rfl rfl ?_
 refine zJ (Qi rfl) ?_
 refine zJ (ZH rfl Vg) ?_
 refine zJ (QJ rfl rfl rfl) ?_
 refine ZA rfl rfl rfl rfl rfl ?_
 refine zN ?_
 refine zI ?_ ?_<;>intro hc33
 ·
  rw [zes] at hc33
  refine zR (zM ?_)
  refine zA ?_
  refine zA (zN (Qs (Qc ?_)))
  first
  | exact K1 (L:=[]) (fun a ha w hw=>zvg rfl rfl rfl a ha w) (fun w hw=>⟨_,I,[],rfl,hIc,hw.drop,by rw [(zoJ hc33).1];exact zaI.empty (zoJ hc33).2⟩)
 rw [zes] at hc33
 obtain ⟨hck,hx1,hx24,hrs⟩:=zjg hc33
 obtain ⟨w0,x0,hx0,hv0,e01,e02,hR0⟩:=hW.at (k:=0) (by omega)
 have hcs0:x0.rs.map Kq=csW xs 0:=(zfv hv0).symm
 have hM64:=WA (i:=0) hrs
 have hR0l:=hR0.len
 have hx0b:=hrs x0 (List.mem_of_getElem? hv0)
 refine Qo (Qa (zR (zM ?_)))
 refine zV (zX Vg hH) ?_
 refine zV (Qp rfl zaF (fun hg=>by exact zyw hH hx0) rfl) ?_
 refine Qx (cap:=[]) (vs:=[_]) rfl rfl Vi .nil (Yo hR0 (by omega) _ _) rfl rfl ?_
 rintro vv1 I1 L1 hI1 ⟨rfl,av4,c4,rfl,hT⟩
 have hW:=hW.mono hI1;have hH:=hH.mono hI1;have hIc:=hIc.trans hI1
 rw [hcs0] at hT ⊢
 refine zA ?_
 refine zN (zR ?_)
 refine zM ?_
 refine zQ Vg ?_
 refine Q3 zo1 rfl rfl (by omega) (by decide) rfl rfl (fun b_41=>?_)
 refine zA (Qb ?_)
 rw [show ((xs.length:Nat):Int).toNat=xs.length from rfl,zf1]
 refine Qa (zR (zM ?_))
 refine zQ Qy ?_
 refine zB ?_
 refine Q3 YI rfl rfl (by omega) (by decide) rfl rfl (fun b_45=>?_)
 refine Qr Yp rfl rfl (fun b_6=>?_)
 refine zS Zg ?_
 refine Qb ?_
 have e1:(((csW xs 0).length:Nat):Int)+1=(((csW xs 0).length+1:Nat):Int):=rfl
 rw [e1,show (((csW xs 0).length+1:Nat):Int).toNat=(csW xs 0).length+1 from rfl,Q2,Zd,Uz]
 refine Ze (b:=b_6) (by repeat (first | exact Q8.here | apply Q8.there)) (fun I2 hI2 hb2=>?_)
 have hW:=hW.mono hI2;have hH:=hH.mono hI2;have hT:=hT.mono hI2;have hIc:=hIc.trans hI2
 have hC6:QV I2 [] b_6 0 (.slice (some ⟨b_45,0,none⟩) ((csW xs 0).length+1) ((csW xs 0).length+1)):=.imm hb2 rfl
 refine Qa (Ql (Ql ?_))
 have hw1:=zrt (al:=alW xs) zkA
 refine JA (loc':=(b_45,.cells (Zh (Ve ((csW xs 0).length+1) (Yz (wdF (alW xs) 1)))) 3 (0,0))::(b_41,.cells (VH (List.replicate xs.length ⟨none,0,0⟩)) 41 (0,0))::MB []) (by rw [hw1];rfl) ?_
 refine Qg (zA (zN (Qm ?_)))
 refine Ug [(0,_),(2,_),(4,_),(5,_),(6,_)] (.cons rfl (.cons rfl (.cons rfl (.cons rfl (.cons rfl .nil))))) (fun T L0 mz ms E I' loc'=>∃ (i:Nat) (hs:List Hd),mz=xs.length-i∧E=(7,.int .i64 i)::T∧HLe I2 I'∧(b_45,.cells (Zh (Ve ((csW xs 0).length+1) (Yz (wdF (alW xs) i)))) 3 (0,0))::(b_41,.cells (VH hs) 41 (0,0))::MB ms=loc'∧i≤xs.length∧1≤i∧hs.length=xs.length∧PrQ I' xs hs i) _ _ _ _ ⟨1,_,rfl,rfl,zyv _,rfl,hx1,Nat.le_refl _,by rw [List.length_replicate],PrQ.start hx1⟩ (.cons rfl (.cons rfl (.cons rfl (.cons rfl (.cons rfl (.cons rfl .nil)))))) (zyv _) rfl ?_
 rintro mz ms E J3 loc' ⟨i,hs,rfl,rfl,hJ,rfl,hi,hi1,hhl,hPr⟩
 have hW:=hW.mono hJ;have hH:=hH.mono hJ;have hT:=hT.mono hJ;have hC6:=hC6.mono hJ;have hIc:=hIc.trans hJ
 have hB0:=hJ
 refine Ql (zR (zM ?_))
 refine zM ?_
 refine zQ Vg ?_
 refine zC (zN ?_)
 refine zI ?_ ?_<;>intro hc49
 ·
  have hlt_i:i<xs.length:=by have h:=hc49;simp at h;omega
  obtain ⟨w,x,hx,hv,e1,e2,hR⟩:=hW.at hlt_i
  have hcsi:x.rs.map Kq=csW xs i:=(zfv hv).symm
  have hMi:=WA (i:=i) hrs
  have hRl:=hR.len
  have hxb:=hrs x (List.mem_of_getElem? hv)
  refine Qo (Qa (Ql (Qm (zR (zM ?_)))))
  refine zM ?_
  refine zM ?_
  refine zM ?_
  refine zM ?_
  refine zV (zX Vg hH) ?_
  refine zV (Qp rfl zaF (fun hg=>by exact zyw hH hx) rfl) ?_
  refine Qx (cap:=[]) (vs:=[_]) rfl rfl Vi .nil (Yo hR (by omega) _ _) rfl rfl ?_
  rintro vv4 I4 L4 hI4 ⟨rfl,av7,c7,rfl,hT7⟩
  have hT:=hT.mono hI4;have hC6:=hC6.mono hI4;have hPr:=hPr.mono hI4;have hB0:=hB0.trans hI4
  rw [hcsi] at hT7 ⊢
  refine Qx (cap:=[]) (vs:=[_,_]) rfl rfl zr6 .nil (zuL hT hT7 (by omega) (by omega)) rfl rfl ?_
  rintro vv5 I5 L5 hI5 ⟨rfl,z8,av8,c8,rfl,hP8⟩
  have hC6:=hC6.mono hI5;have hPr:=hPr.mono hI5;have hB0:=hB0.trans hI5
  refine zM ?_
  refine zE ?_
  refine zE ?_
  refine zE ?_
  refine zV (Q6 rfl rfl zbv (fun hg=>by omega)) ?_
  refine ZG rfl rfl zt5 rfl rfl (by repeat (first | exact Upd.here | apply Upd.there | apply QI)) (zyn (by omega)) ?_
  refine Qb ?_
  rw [show (#[Value.int .i64 z8,Value.slice av8 (VR (csW xs 0) (csW xs i)).length c8,Value.int .i64 (Xz (csW xs 0) (csW xs i))]:Array Value)[1]=Value.slice av8 (VR (csW xs 0) (csW xs i)).length c8 from rfl,zgp]
  have hPr2:=hPr.put (by omega) (by omega) hP8
  have hs2_at:(hs.set i ⟨av8,(VR (csW xs 0) (csW xs i)).length,c8⟩)[i]? =some ⟨av8,(VR (csW xs 0) (csW xs i)).length,c8⟩:=List.getElem?_set_self (by omega)
  have hpfe:pfW xs i=VR (csW xs 0) (csW xs i):=by unfold pfW;rw [if_neg (by omega)]
  have hPi:Sl I5 2 VO av8 (VR (csW xs 0) (csW xs i)).length c8 (pfW xs i):=by rw [hpfe];exact hP8
  have hpl:=(X5 (xs:=xs) (i:=i)).2
  have hpr:=(zcg (a:=(csW xs 0)) (b:=(csW xs i))).2
  refine Qa (zR (zM ?_))
  refine zQ Qy ?_
  refine zB ?_
  refine Q3 YI rfl rfl (by omega) (by decide) rfl rfl (fun b_69=>?_)
  refine Qr Yp rfl rfl (fun b_8=>?_)
  refine zS Zg ?_
  refine Qb ?_
  have e1:(((csW xs 0).length:Nat):Int)+1=(((csW xs 0).length+1:Nat):Int):=rfl
  rw [e1,show (((csW xs 0).length+1:Nat):Int).toNat=(csW xs 0).length+1 from rfl,Q2,Zd,Uz]
  refine Ze (b:=b_8) (by repeat (first | exact Q8.here | apply Q8.there)) (fun I6 hI6 hb6=>?_)
  have hC6:=hC6.mono hI6;have hPr2:=hPr2.mono hI6;have hPi:=hPi.mono hI6;have hB0:=hB0.trans hI6
  have hC8:QV I6 [] b_8 0 (.slice (some ⟨b_69,0,none⟩) ((csW xs 0).length+1) ((csW xs 0).length+1)):=.imm hb6 rfl
  refine Qa (zR (zM ?_))
  refine zM ?_
  refine zV (Q6 rfl rfl zbv (fun hg=>by omega)) ?_
  refine zV (Qd rfl ze9 (fun hg=>by exact zyp (zyp (zlz hs2_at)))) ?_
  refine Qx (cap:=[]) (vs:=[_]) rfl rfl znR .nil (zjc _ _ _ _) rfl rfl ?_
  rintro vv7 I7 L7 hI7 ⟨rfl,b1,rfl,hb1⟩
  have hC6:=hC6.mono hI7;have hPr2:=hPr2.mono hI7;have hPi:=hPi.mono hI7;have hC8:=hC8.mono hI7;have hB0:=hB0.trans hI7
  refine zN (Qm ?_)
  refine JA (loc':=[]++(((b_69,.cells (Zh (Ve ((csW xs 0).length+1) (Yz (cnt [])))) 3 (0,0))::(b_45,.cells (Zh (Ve ((csW xs 0).length+1) (Yz (wmx (wdF (alW xs) i) [])))) 3 (0,0))::(b_41,.cells (VH (hs.set i ⟨av8,(VR (csW xs 0) (csW xs i)).length,c8⟩)) 41 (0,0))::[])++MB ms)) (by rw [zgL];rfl) ?_
  refine UV (K:=[]) (L:=(b_69,.cells (Zh (Ve ((csW xs 0).length+1) (Yz (cnt [])))) 3 (0,0))::(b_45,.cells (Zh (Ve ((csW xs 0).length+1) (Yz (wmx (wdF (alW xs) i) [])))) 3 (0,0))::(b_41,.cells (VH (hs.set i ⟨av8,(VR (csW xs 0) (csW xs i)).length,c8⟩)) 41 (0,0))::[]) (en1:=zxl) (en2:=zw1) (xs:=alW xs i) (fun pre I' loc'=>loc'=(b_69,.cells (Zh (Ve ((csW xs 0).length+1) (Yz (cnt pre)))) 3 (0,0))::(b_45,.cells (Zh (Ve ((csW xs 0).length+1) (Yz (wmx (wdF (alW xs) i) pre)))) 3 (0,0))::(b_41,.cells (VH (hs.set i ⟨av8,(VR (csW xs 0) (csW xs i)).length,c8⟩)) 41 (0,0))::[]) (fun _ _ _ _=>False) (fun pre x E2 I2 loc2=>E2=[(6,Za b_6),(8,Za b_8),(9,.int .i64 x.1)]∧loc2=(b_69,.cells (Zh (Ve ((csW xs 0).length+1) (Yz (cnt pre)))) 3 (0,0))::(b_45,.cells (Zh (Ve ((csW xs 0).length+1) (Yz (wmx (wdF (alW xs) i) pre)))) 3 (0,0))::(b_41,.cells (VH (hs.set i ⟨av8,(VR (csW xs 0) (csW xs i)).length,c8⟩)) 41 (0,0))::[]) rfl zg1 (zg9 hPi (by omega) (zsZ hrs i) hb1) rfl rfl rfl ?_ ?_ ?_ ?_
  ·
   rintro l9 pre x I1 loc1 H1 hpre hI1 rfl
   refine Qg (zA (Qb ?_))
   exact zbU _ ⟨zyv _,rfl,rfl⟩ (.cons rfl (.cons rfl (.cons rfl .nil)))
  ·
   rintro l9 pre x E2 I2 loc2 H2 hpre hI2 ⟨rfl,rfl⟩
   have hC6:=hC6.mono hI2;have hC8:=hC8.mono hI2
   obtain ⟨x1,x2,x3,x4,x5⟩:=znt hpre
   have hcb:=Nat.le_trans (@zd8 (alW xs i) x.1.toNat) (zh7 hrs i)
   have hnc:=zbC (f:=cnt pre) (a:=x.1.toNat) (B:=128) (by omega)
   refine Qm (zR ?_)
   refine zV (Qd rfl QK (fun hg=>by exact hC8.any)) ?_
   refine zM ?_
   refine zV (Q6 rfl rfl Qy (fun hg=>by omega)) ?_
   refine zV (Qd rfl Qt (fun hg=>by exact V0 (Yy (by omega)))) ?_
   refine zB ?_
   refine zV (Q6 rfl rfl Qy (fun hg=>by omega)) ?_
   refine ZG rfl rfl Yf rfl rfl (by repeat (first | exact Upd.here | apply Upd.there | apply QI)) (ztr (by rw [Z9];omega)) ?_
   refine Qb ?_
   rw [Ud,Ju,show Yz (cnt pre) x.1.toNat+1=((cnt pre x.1.toNat+1:Nat):Int) from rfl,zaf,←U3]
   refine Qa ?_
   have hD:=zyv I2
   refine Jn ?_
   refine Z8 I2 [(b_69,.cells (Zh (Ve ((csW xs 0).length+1) (Yz (cnt (pre++[x]))))) 3 (0,0))] mixed ?_
   refine zT 0 rfl (Qd rfl QK (fun hg=>by exact hC6.any)) hD ?_
   refine zT 1 rfl (Qi rfl) hD ?_
   refine zT 2 rfl (Qd rfl QK (fun hg=>by exact hC6.any)) hD ?_
   refine zT 3 rfl (Qi rfl) hD ?_
   refine zT 4 rfl (Q6 rfl rfl Qy (fun hg=>by omega)) hD ?_
   refine zT 6 rfl (Qd rfl QK (fun hg=>by exact hC8.any)) hD ?_
   refine zT 7 rfl (Qi rfl) hD ?_
   refine zT 8 rfl (Q6 rfl rfl Qy (fun hg=>by omega)) hD ?_
   refine zT 9 rfl (Qd rfl Qt (fun hg=>by exact V0 (Yy (by omega)))) hD ?_
   refine qd 5 rfl ?_
   refine zV (Qd rfl Qt (fun hg=>by exact zyp (V0 (Yy (by omega))))) ?_
   refine Qb ?_
   refine zD hD ?_
   refine zT 10 rfl (YP rfl rfl) hD ?_
   refine zT 11 rfl (Q6 rfl rfl Qy (fun hg=>by omega)) hD ?_
   refine qd 12 rfl ?_
   refine ZG rfl rfl Yf rfl rfl (by repeat (first | exact Upd.here | apply Upd.there | apply QI)) (ztr (by rw [Z9];omega)) ?_
   refine Qb ?_
   refine zD hD ?_
   refine QF (by kernel_rfl) ?_
   refine QQ ?_
   rw [zml,Ud,Ju,zaf,zmn rfl]
   refine Qh ?_
   exact XG ⟨zyv _,rfl⟩ .refl
  ·
   rintro bd I1 loc1 hI1 rfl
   have hPr2:=hPr2.mono hI1;have hB0:=hB0.trans hI1
   refine Qh (Qh (Qa (Qg (zM ?_))))
   refine zB ?_
   refine zA (Qb ?_)
   exact zd (h:=⟨xs.length-(i+1),by omega,i+1,_,rfl,rfl,hB0,rfl,by omega,by omega,by rw [List.length_set];exact hhl,hPr2⟩)
  rintro c bd pre I1 loc1 hI1 hpre hF;exact hF.elim
 have hge_i:xs.length≤i:=by have h:=hc49;simp at h;omega
 obtain rfl:i=xs.length:=by omega
 refine QH (Qe (Qe (Qk (Qa (zR (zM ?_))))))
 refine zQ Qy ?_
 refine zB ?_
 refine Q3 YI rfl rfl (by omega) (by decide) rfl rfl (fun b_98=>?_)
 refine Qr Yp rfl rfl (fun b_10=>?_)
 refine zS Zg ?_
 refine Qb ?_
 have e1:(((csW xs 0).length:Nat):Int)+1=(((csW xs 0).length+1:Nat):Int):=rfl
 rw [e1,show (((csW xs 0).length+1:Nat):Int).toNat=(csW xs 0).length+1 from rfl,Q2,Zd,Uz,←zmv (w:=(wdW xs))]
 refine Ze (b:=b_10) (by repeat (first | exact Q8.here | apply Q8.there)) (fun I8 hI8 hb8=>?_)
 have hW:=hW.mono hI8;have hH:=hH.mono hI8;have hT:=hT.mono hI8;have hC6:=hC6.mono hI8;have hPr:=hPr.mono hI8;have hIc:=hIc.trans hI8
 have hC10:QV I8 [] b_10 0 (.slice (some ⟨b_98,0,none⟩) ((csW xs 0).length+1) ((csW xs 0).length+1)):=.imm hb8 rfl
 refine Qa (zR (zA (zN (Ql (zR ?_)))))
 refine zV (Qd rfl QK (fun hg=>by exact hC6.any)) ?_
 refine zQ Qy ?_
 refine zM (zN (Qm ?_))
 refine Ug [(0,_),(2,_),(4,_),(5,_),(6,_),(10,_),(99,_),(100,_)] (.cons rfl (.cons rfl (.cons rfl (.cons rfl (.cons rfl (.cons rfl (.cons rfl (.cons rfl .nil)))))))) (fun T L0 mz ms E I' loc'=>∃ (k:Nat),mz=((csW xs 0).length+1)-k∧E=(11,.int .i64 ((VN (wdW xs) k:Nat):Int))::(101,.int .i64 k)::T∧I8=I'∧(b_98,.cells (Zh (Ve ((csW xs 0).length+1) (Yz (atK (wdW xs) k)))) 3 (0,0))::(b_45,.cells (Zh (Ve ((csW xs 0).length+1) (Yz (wdW xs)))) 3 (0,0))::(b_41,.cells (VH hs) 41 (0,0))::MB ms=loc'∧k≤((csW xs 0).length+1)) _ _ _ _ ⟨0,rfl,rfl,rfl,rfl,Nat.zero_le _⟩ (.cons rfl (.cons rfl (.cons rfl (.cons rfl (.cons rfl (.cons rfl (.cons rfl (.cons rfl (.cons rfl (.cons rfl .nil)))))))))) (zyv _) rfl ?_
 rintro mz ms E I' loc' ⟨k,rfl,rfl,rfl,rfl,hk⟩
 refine zR (zC (zN (Ql ?_)))
 refine zI ?_ ?_<;>intro hc102
 ·
  have hlt_k:k<((csW xs 0).length+1):=by have h:=hc102;simp at h;omega
  have hns:=zbC (f:=VN (wdW xs)) (a:=k) (B:=20000) (Nat.le_trans (zdW (zfO (zh7 hrs) _) k) (Nat.le_trans (Nat.mul_le_mul_right 129 (show k≤65 by omega)) (by decide)))
  have hnw:=zbC (f:=(wdW xs)) (a:=k) (B:=128) (zfO (zh7 hrs) _ _)
  have e9:Yz (VN (wdW xs)) k=((VN (wdW xs) k:Nat):Int):=rfl
  refine Qo (Qa (Ql (Qm (zR (zM ?_)))))
  refine zV (Q6 rfl rfl Qy (fun hg=>by omega)) ?_
  refine zV (Qd rfl Qt (fun hg=>by exact zyp (V0 (k:=k) (Yy (show k<_ by omega))))) ?_
  refine zA ?_
  refine zA ?_
  refine zN (zR ?_)
  refine zV (Qd rfl QK (fun hg=>by exact hC10.any)) ?_
  refine zM ?_
  refine zM ?_
  refine zV (Q6 rfl rfl Qy (fun hg=>by omega)) ?_
  refine ZG rfl rfl Yf rfl rfl (by repeat (first | exact Upd.here | apply Upd.there | apply QI)) (ztr (by rw [Z9];omega)) ?_
  refine Qb ?_
  rw [Vq,Ju,zaf,zkW]
  refine Qa (Qg (zM ?_))
  refine zM ?_
  refine zB ?_
  refine zB ?_
  refine zA (Qb (Qh (Qa (Qg ?_))))
  refine zB ?_
  refine zM (Qb ?_)
  exact zd (h:=⟨((csW xs 0).length+1)-(k+1),by omega,k+1,rfl,rfl,rfl,rfl,by omega⟩)
 have hge_k:((csW xs 0).length+1)≤k:=by have h:=hc102;simp at h;omega
 obtain rfl:k=(csW xs 0).length+1:=by omega
 have hsE:=Nat.le_trans (zdW (w:=wdW xs) (zfO (zh7 hrs) _) ((csW xs 0).length+1)) (Nat.mul_le_mul_right 129 (show (csW xs 0).length+1≤65 by omega))
 refine QH (Qe (Qe (Qk (Qa (Ql (zR (zM ?_)))))))
 refine zB ?_
 refine zA (Qb ?_)
 rw [zxt]
 refine Qa (zR (zM ?_))
 refine zC (zN ?_)
 refine zI ?_ ?_<;>intro hc118
 ·
  have hbig:loW xs>256:=by have h:=hc118;simp at h;omega
  obtain ⟨t1,t2⟩:=zwj hc33 hbig
  refine zR (zA ?_)
  refine zA (zN (Qs (Qc ?_)))
  first
  | exact K1 (L:=_::_::_::[]) (fun a ha w hw=>zvg rfl rfl rfl a ha w) (fun w hw=>⟨_,I8,[],rfl,hIc,hw.drop,by rw [t1];exact zaI.empty t2⟩)
 have hbig:¬loW xs>256:=by have h:=hc118;simp at h;omega
 obtain ⟨t1,t2⟩:=zxM hc33 hbig
 refine JA (by rw [zqM]) ?_
 refine zch (L:=(b_98,.cells (Zh (Ve ((csW xs 0).length+1) (Yz (VN (wdW xs))))) 3 (0,0))::(b_45,.cells (Zh (Ve ((csW xs 0).length+1) (Yz (wdW xs)))) 3 (0,0))::(b_41,.cells (VH hs) 41 (0,0))::[]) (R:=MB ms) (.cons .here (.cons .here (.cons .here .nil))) (fun I10 hI10 hall=>?_)
 have hW:=hW.mono hI10;have hH:=hH.mono hI10;have hT:=hT.mono hI10;have hC6:=hC6.mono hI10;have hPr:=hPr.mono hI10;have hC10:=hC10.mono hI10;have hIc:=hIc.trans hI10
 have hAt:Sl I10 1 QP (some ⟨b_98,0,none⟩) ((csW xs 0).length+1) ((csW xs 0).length+1) (Ve ((csW xs 0).length+1) (Yz (VN (wdW xs)))):=Sl.lit _ Z9 Qv (hall _ _ (by repeat (first | exact List.mem_cons_self .. | apply List.mem_cons_of_mem)))
 have hWd:Sl I10 1 QP (some ⟨b_45,0,none⟩) ((csW xs 0).length+1) ((csW xs 0).length+1) (Ve ((csW xs 0).length+1) (Yz (wdW xs))):=Sl.lit _ Z9 Qv (hall _ _ (by repeat (first | exact List.mem_cons_self .. | apply List.mem_cons_of_mem)))
 have hPs:Sl I10 1 WD (some ⟨b_41,0,none⟩) xs.length xs.length hs:=Sl.lit _ hhl Q7 (hall _ _ (by repeat (first | exact List.mem_cons_self .. | apply List.mem_cons_of_mem)))
 refine JA (loc':=[]++MB ms) rfl ?_
 refine Qo (Qa (Ql (zR (zM ?_))))
 refine zQ Vg ?_
 refine zM (zN (Qm ?_))
 refine Ug [(4,_),(5,_),(6,_),(10,_),(11,_),(119,_),(120,_)] (.cons rfl (.cons rfl (.cons rfl (.cons rfl (.cons rfl (.cons rfl (.cons rfl .nil))))))) (fun T L0 mz ms E I' loc'=>∃ (i:Nat) (v2:Value) (os:List Hd) (L:Go.Kn.Loc),mz=xs.length-i∧E=(2,v2)::(121,.int .i64 i)::T∧HLe I10 I'∧L++MB ms=loc'∧i≤xs.length∧OwnS 23 1 v2 i (os.flatMap WD) L∧zcp I' os ((List.range i).map (zoQ xs))) _ _ _ _ ⟨0,_,[],[],rfl,rfl,zyv _,rfl,Nat.zero_le _,OwnS.nil,zcp.nil⟩ (.cons rfl (.cons rfl (.cons rfl (.cons rfl (.cons rfl (.cons rfl (.cons rfl (.cons rfl (.cons rfl .nil))))))))) (zyv _) rfl ?_
 rintro mz ms E J11 loc' ⟨i,v2,os,L,rfl,rfl,hJ,rfl,hi,hO,hre⟩
 have hW:=hW.mono hJ;have hH:=hH.mono hJ;have hT:=hT.mono hJ;have hC6:=hC6.mono hJ;have hPr:=hPr.mono hJ;have hC10:=hC10.mono hJ;have hAt:=hAt.mono hJ;have hWd:=hWd.mono hJ;have hPs:=hPs.mono hJ;have hIc:=hIc.trans hJ
 have hB6:=hJ
 obtain ⟨va2,vc2,rfl⟩:=zdh hO
 refine zR (zC (zN (Ql ?_)))
 refine zI ?_ ?_<;>intro hc122
 ·
  have hlt_i:i<xs.length:=by have h:=hc122;simp at h;omega
  obtain ⟨w,x,hx,hv,e1,e2,hR⟩:=hW.at hlt_i
  have hcsi:x.rs.map Kq=csW xs i:=(zfv hv).symm
  have hMi:=WA (i:=i) hrs
  have hRl:=hR.len
  have hxb:=hrs x (List.mem_of_getElem? hv)
  obtain ⟨hp,hhp,hhn,hPf⟩:=hPr i hlt_i
  have hpl:=(X5 (xs:=xs) (i:=i)).2
  refine Qo (Qa (Ql (Qm (zR (zM ?_)))))
  refine zV (zX Vg hH) ?_
  refine zV (Qp rfl zaF (fun hg=>by exact zyw hH hx) rfl) ?_
  refine Qr zpW rfl rfl (fun b_15=>?_)
  refine zA ?_
  refine zh zio ?_
  refine zN ?_
  refine znW [(2,_),(4,_),(5,_),(6,_),(10,_),(11,_),(14,_),(119,_),(120,_),(121,_)] (.cons rfl (.cons rfl (.cons rfl (.cons rfl (.cons rfl (.cons rfl (.cons rfl (.cons rfl (.cons rfl (.cons rfl .nil)))))))))) (fun T L0 ms E I' loc'=>∃ (b16 b17 b127:Nat) (av17:Option Addr) (c17:Nat),E=(16,Za b16)::(17,Za b17)::T∧HLe J11 I'∧(b127,.cells (Zh (Ve (loW xs) (fun _=>0))) 3 (0,0))::(L++MB ms)=loc'∧QV I' [] b16 0 (.slice (some ⟨b127,0,none⟩) (loW xs) (loW xs))∧QV I' [] b17 0 (.slice av17 (csW xs i).length c17)∧Sl I' 1 QP av17 (csW xs i).length c17 (csW xs i)) ?_ ?_
  ·
   have hKc30:=zyv J11
   have hD:=zyv J11
   refine Jn ?_
   refine Z8 J11 [(b_15,.cells (zkk w).toArray 65 (0,0))] mixed ?_
   refine zT 0 rfl (Qi rfl) hD ?_
   refine zT 2 rfl (Qp rfl zaF (fun hg=>by exact Cells.g0) rfl) hD ?_
   refine zrN 1 3 4 5 rfl rfl rfl rfl (by kernel_rfl) ?_ ?_ ?_ ?_
   ·
    refine Q3 YI rfl rfl (by omega) (by decide) rfl rfl (fun b_127=>?_)
    refine Qb ?_
    refine zD hD ?_
    refine KX 3 4 5 rfl rfl rfl (by kernel_rfl) ?_ ?_ ?_
    ·
     refine Qx (cap:=[]) (vs:=[_]) rfl rfl Vi .nil (Yo hR (by omega) _ _) rfl rfl ?_
     rintro vv12 I12 L12 hI12 ⟨rfl,av30,c30,rfl,hL30⟩
     have hKc30:=hKc30.trans hI12;have hD:=hD.trans hI12
     rw [hcsi] at hL30 ⊢
     refine Qb ?_
     refine zD hD ?_
     refine Zr 4 5 rfl rfl (by kernel_rfl) ?_ ?_
     ·
      refine Qr Yp rfl rfl (fun b_16=>?_)
      refine Qb ?_
      refine zD hD ?_
      refine qd 5 rfl ?_
      refine Qr Yp rfl rfl (fun b_17=>?_)
      refine Qb ?_
      refine zD hD ?_
      refine qd 6 rfl ?_
      refine zS Zg ?_
      refine Qb ?_
      refine zD hD ?_
      refine qd 7 rfl ?_
      refine zS Zg ?_
      refine Qb ?_
      refine zD hD ?_
      refine QF (by kernel_rfl) ?_
      refine QQ ?_
      rw [show ((loW xs:Nat):Int).toNat=loW xs from rfl,Q2,Zd]
      refine QL (b:=b_16) (by repeat (first | exact Q8.here | apply Q8.there)) (fun I16 h16 e16=>?_)
      refine QL (b:=b_17) (by repeat (first | exact Q8.here | apply Q8.there)) (fun I17 h17 e17=>?_)
      exact zn (h:=⟨b_16,b_17,b_127,_,_,rfl,(hKc30.trans h16).trans h17,rfl,.imm (h17 _ _ e16) rfl,.imm e17 rfl,(hL30.mono h16).mono h17⟩)
     refine Qr Yp rfl rfl (fun b_17=>?_)
     refine Qb ?_
     refine zD hD ?_
     refine qd 4 rfl ?_
     refine Qr Yp rfl rfl (fun b_16=>?_)
     refine Qb ?_
     refine zD hD ?_
     refine qd 6 rfl ?_
     refine zS Zg ?_
     refine Qb ?_
     refine zD hD ?_
     refine qd 7 rfl ?_
     refine zS Zg ?_
     refine Qb ?_
     refine zD hD ?_
     refine QF (by kernel_rfl) ?_
     refine QQ ?_
     rw [show ((loW xs:Nat):Int).toNat=loW xs from rfl,Q2,Zd]
     refine QL (b:=b_16) (by repeat (first | exact Q8.here | apply Q8.there)) (fun I16 h16 e16=>?_)
     refine QL (b:=b_17) (by repeat (first | exact Q8.here | apply Q8.there)) (fun I17 h17 e17=>?_)
     exact zn (h:=⟨b_16,b_17,b_127,_,_,rfl,(hKc30.trans h16).trans h17,rfl,.imm (h17 _ _ e16) rfl,.imm e17 rfl,(hL30.mono h16).mono h17⟩)
    ·
     refine Qr Yp rfl rfl (fun b_16=>?_)
     refine Qb ?_
     refine zD hD ?_
     refine Zr 3 5 rfl rfl (by kernel_rfl) ?_ ?_
     ·
      refine Qx (cap:=[]) (vs:=[_]) rfl rfl Vi .nil (Yo hR (by omega) _ _) rfl rfl ?_
      rintro vv13 I13 L13 hI13 ⟨rfl,av30,c30,rfl,hL30⟩
      have hKc30:=hKc30.trans hI13;have hD:=hD.trans hI13
      rw [hcsi] at hL30 ⊢
      refine Qb ?_
      refine zD hD ?_
      refine qd 5 rfl ?_
      refine Qr Yp rfl rfl (fun b_17=>?_)
      refine Qb ?_
      refine zD hD ?_
      refine qd 6 rfl ?_
      refine zS Zg ?_
      refine Qb ?_
      refine zD hD ?_
      refine qd 7 rfl ?_
      refine zS Zg ?_
      refine Qb ?_
      refine zD hD ?_
      refine QF (by kernel_rfl) ?_
      refine QQ ?_
      rw [show ((loW xs:Nat):Int).toNat=loW xs from rfl,Q2,Zd]
      refine QL (b:=b_16) (by repeat (first | exact Q8.here | apply Q8.there)) (fun I16 h16 e16=>?_)
      refine QL (b:=b_17) (by repeat (first | exact Q8.here | apply Q8.there)) (fun I17 h17 e17=>?_)
      exact zn (h:=⟨b_16,b_17,b_127,_,_,rfl,(hKc30.trans h16).trans h17,rfl,.imm (h17 _ _ e16) rfl,.imm e17 rfl,(hL30.mono h16).mono h17⟩)
     refine Qr Yp rfl rfl (fun b_17=>?_)
     refine Qb ?_
     refine zD hD ?_
     refine qd 3 rfl ?_
     refine Qx (cap:=[]) (vs:=[_]) rfl rfl Vi .nil (Yo hR (by omega) _ _) rfl rfl ?_
     rintro vv14 I14 L14 hI14 ⟨rfl,av30,c30,rfl,hL30⟩
     have hKc30:=hKc30.trans hI14;have hD:=hD.trans hI14
     rw [hcsi] at hL30 ⊢
     refine Qb ?_
     refine zD hD ?_
     refine qd 6 rfl ?_
     refine zS Zg ?_
     refine Qb ?_
     refine zD hD ?_
     refine qd 7 rfl ?_
     refine zS Zg ?_
     refine Qb ?_
     refine zD hD ?_
     refine QF (by kernel_rfl) ?_
     refine QQ ?_
     rw [show ((loW xs:Nat):Int).toNat=loW xs from rfl,Q2,Zd]
     refine QL (b:=b_16) (by repeat (first | exact Q8.here | apply Q8.there)) (fun I16 h16 e16=>?_)
     refine QL (b:=b_17) (by repeat (first | exact Q8.here | apply Q8.there)) (fun I17 h17 e17=>?_)
     exact zn (h:=⟨b_16,b_17,b_127,_,_,rfl,(hKc30.trans h16).trans h17,rfl,.imm (h17 _ _ e16) rfl,.imm e17 rfl,(hL30.mono h16).mono h17⟩)
    refine Qr Yp rfl rfl (fun b_17=>?_)
    refine Qb ?_
    refine zD hD ?_
    refine Zr 3 4 rfl rfl (by kernel_rfl) ?_ ?_
    ·
     refine Qx (cap:=[]) (vs:=[_]) rfl rfl Vi .nil (Yo hR (by omega) _ _) rfl rfl ?_
     rintro vv15 I15 L15 hI15 ⟨rfl,av30,c30,rfl,hL30⟩
     have hKc30:=hKc30.trans hI15;have hD:=hD.trans hI15
     rw [hcsi] at hL30 ⊢
     refine Qb ?_
     refine zD hD ?_
     refine qd 4 rfl ?_
     refine Qr Yp rfl rfl (fun b_16=>?_)
     refine Qb ?_
     refine zD hD ?_
     refine qd 6 rfl ?_
     refine zS Zg ?_
     refine Qb ?_
     refine zD hD ?_
     refine qd 7 rfl ?_
     refine zS Zg ?_
     refine Qb ?_
     refine zD hD ?_
     refine QF (by kernel_rfl) ?_
     refine QQ ?_
     rw [show ((loW xs:Nat):Int).toNat=loW xs from rfl,Q2,Zd]
     refine QL (b:=b_16) (by repeat (first | exact Q8.here | apply Q8.there)) (fun I16 h16 e16=>?_)
     refine QL (b:=b_17) (by repeat (first | exact Q8.here | apply Q8.there)) (fun I17 h17 e17=>?_)
     exact zn (h:=⟨b_16,b_17,b_127,_,_,rfl,(hKc30.trans h16).trans h17,rfl,.imm (h17 _ _ e16) rfl,.imm e17 rfl,(hL30.mono h16).mono h17⟩)
    refine Qr Yp rfl rfl (fun b_16=>?_)
    refine Qb ?_
    refine zD hD ?_
    refine qd 3 rfl ?_
    refine Qx (cap:=[]) (vs:=[_]) rfl rfl Vi .nil (Yo hR (by omega) _ _) rfl rfl ?_
    rintro vv16 I16 L16 hI16 ⟨rfl,av30,c30,rfl,hL30⟩
    have hKc30:=hKc30.trans hI16;have hD:=hD.trans hI16
    rw [hcsi] at hL30 ⊢
    refine Qb ?_
    refine zD hD ?_
    refine qd 6 rfl ?_
    refine zS Zg ?_
    refine Qb ?_
    refine zD hD ?_
    refine qd 7 rfl ?_
    refine zS Zg ?_
    refine Qb ?_
    refine zD hD ?_
    refine QF (by kernel_rfl) ?_
    refine QQ ?_
    rw [show ((loW xs:Nat):Int).toNat=loW xs from rfl,Q2,Zd]
    refine QL (b:=b_16) (by repeat (first | exact Q8.here | apply Q8.there)) (fun I16 h16 e16=>?_)
    refine QL (b:=b_17) (by repeat (first | exact Q8.here | apply Q8.there)) (fun I17 h17 e17=>?_)
    exact zn (h:=⟨b_16,b_17,b_127,_,_,rfl,(hKc30.trans h16).trans h17,rfl,.imm (h17 _ _ e16) rfl,.imm e17 rfl,(hL30.mono h16).mono h17⟩)
   ·
    refine Qx (cap:=[]) (vs:=[_]) rfl rfl Vi .nil (Yo hR (by omega) _ _) rfl rfl ?_
    rintro vv17 I17 L17 hI17 ⟨rfl,av30,c30,rfl,hL30⟩
    have hKc30:=hKc30.trans hI17;have hD:=hD.trans hI17
    rw [hcsi] at hL30 ⊢
    refine Qb ?_
    refine zD hD ?_
    refine KX 1 4 5 rfl rfl rfl (by kernel_rfl) ?_ ?_ ?_
    ·
     refine Q3 YI rfl rfl (by omega) (by decide) rfl rfl (fun b_127=>?_)
     refine Qb ?_
     refine zD hD ?_
     refine Zr 4 5 rfl rfl (by kernel_rfl) ?_ ?_
     ·
      refine Qr Yp rfl rfl (fun b_16=>?_)
      refine Qb ?_
      refine zD hD ?_
      refine qd 5 rfl ?_
      refine Qr Yp rfl rfl (fun b_17=>?_)
      refine Qb ?_
      refine zD hD ?_
      refine qd 6 rfl ?_
      refine zS Zg ?_
      refine Qb ?_
      refine zD hD ?_
      refine qd 7 rfl ?_
      refine zS Zg ?_
      refine Qb ?_
      refine zD hD ?_
      refine QF (by kernel_rfl) ?_
      refine QQ ?_
      rw [show ((loW xs:Nat):Int).toNat=loW xs from rfl,Q2,Zd]
      refine QL (b:=b_16) (by repeat (first | exact Q8.here | apply Q8.there)) (fun I16 h16 e16=>?_)
      refine QL (b:=b_17) (by repeat (first | exact Q8.here | apply Q8.there)) (fun I17 h17 e17=>?_)
      exact zn (h:=⟨b_16,b_17,b_127,_,_,rfl,(hKc30.trans h16).trans h17,rfl,.imm (h17 _ _ e16) rfl,.imm e17 rfl,(hL30.mono h16).mono h17⟩)
     refine Qr Yp rfl rfl (fun b_17=>?_)
     refine Qb ?_
     refine zD hD ?_
     refine qd 4 rfl ?_
     refine Qr Yp rfl rfl (fun b_16=>?_)
     refine Qb ?_
     refine zD hD ?_
     refine qd 6 rfl ?_
     refine zS Zg ?_
     refine Qb ?_
     refine zD hD ?_
     refine qd 7 rfl ?_
     refine zS Zg ?_
     refine Qb ?_
     refine zD hD ?_
     refine QF (by kernel_rfl) ?_
     refine QQ ?_
     rw [show ((loW xs:Nat):Int).toNat=loW xs from rfl,Q2,Zd]
     refine QL (b:=b_16) (by repeat (first | exact Q8.here | apply Q8.there)) (fun I16 h16 e16=>?_)
     refine QL (b:=b_17) (by repeat (first | exact Q8.here | apply Q8.there)) (fun I17 h17 e17=>?_)
     exact zn (h:=⟨b_16,b_17,b_127,_,_,rfl,(hKc30.trans h16).trans h17,rfl,.imm (h17 _ _ e16) rfl,.imm e17 rfl,(hL30.mono h16).mono h17⟩)
    ·
     refine Qr Yp rfl rfl (fun b_16=>?_)
     refine Qb ?_
     refine zD hD ?_
     refine Zr 1 5 rfl rfl (by kernel_rfl) ?_ ?_
     ·
      refine Q3 YI rfl rfl (by omega) (by decide) rfl rfl (fun b_127=>?_)
      refine Qb ?_
      refine zD hD ?_
      refine qd 5 rfl ?_
      refine Qr Yp rfl rfl (fun b_17=>?_)
      refine Qb ?_
      refine zD hD ?_
      refine qd 6 rfl ?_
      refine zS Zg ?_
      refine Qb ?_
      refine zD hD ?_
      refine qd 7 rfl ?_
      refine zS Zg ?_
      refine Qb ?_
      refine zD hD ?_
      refine QF (by kernel_rfl) ?_
      refine QQ ?_
      rw [show ((loW xs:Nat):Int).toNat=loW xs from rfl,Q2,Zd]
      refine QL (b:=b_16) (by repeat (first | exact Q8.here | apply Q8.there)) (fun I16 h16 e16=>?_)
      refine QL (b:=b_17) (by repeat (first | exact Q8.here | apply Q8.there)) (fun I17 h17 e17=>?_)
      exact zn (h:=⟨b_16,b_17,b_127,_,_,rfl,(hKc30.trans h16).trans h17,rfl,.imm (h17 _ _ e16) rfl,.imm e17 rfl,(hL30.mono h16).mono h17⟩)
     refine Qr Yp rfl rfl (fun b_17=>?_)
     refine Qb ?_
     refine zD hD ?_
     refine qd 1 rfl ?_
     refine Q3 YI rfl rfl (by omega) (by decide) rfl rfl (fun b_127=>?_)
     refine Qb ?_
     refine zD hD ?_
     refine qd 6 rfl ?_
     refine zS Zg ?_
     refine Qb ?_
     refine zD hD ?_
     refine qd 7 rfl ?_
     refine zS Zg ?_
     refine Qb ?_
     refine zD hD ?_
     refine QF (by kernel_rfl) ?_
     refine QQ ?_
     rw [show ((loW xs:Nat):Int).toNat=loW xs from rfl,Q2,Zd]
     refine QL (b:=b_16) (by repeat (first | exact Q8.here | apply Q8.there)) (fun I16 h16 e16=>?_)
     refine QL (b:=b_17) (by repeat (first | exact Q8.here | apply Q8.there)) (fun I17 h17 e17=>?_)
     exact zn (h:=⟨b_16,b_17,b_127,_,_,rfl,(hKc30.trans h16).trans h17,rfl,.imm (h17 _ _ e16) rfl,.imm e17 rfl,(hL30.mono h16).mono h17⟩)
    refine Qr Yp rfl rfl (fun b_17=>?_)
    refine Qb ?_
    refine zD hD ?_
    refine Zr 1 4 rfl rfl (by kernel_rfl) ?_ ?_
    ·
     refine Q3 YI rfl rfl (by omega) (by decide) rfl rfl (fun b_127=>?_)
     refine Qb ?_
     refine zD hD ?_
     refine qd 4 rfl ?_
     refine Qr Yp rfl rfl (fun b_16=>?_)
     refine Qb ?_
     refine zD hD ?_
     refine qd 6 rfl ?_
     refine zS Zg ?_
     refine Qb ?_
     refine zD hD ?_
     refine qd 7 rfl ?_
     refine zS Zg ?_
     refine Qb ?_
     refine zD hD ?_
     refine QF (by kernel_rfl) ?_
     refine QQ ?_
     rw [show ((loW xs:Nat):Int).toNat=loW xs from rfl,Q2,Zd]
     refine QL (b:=b_16) (by repeat (first | exact Q8.here | apply Q8.there)) (fun I16 h16 e16=>?_)
     refine QL (b:=b_17) (by repeat (first | exact Q8.here | apply Q8.there)) (fun I17 h17 e17=>?_)
     exact zn (h:=⟨b_16,b_17,b_127,_,_,rfl,(hKc30.trans h16).trans h17,rfl,.imm (h17 _ _ e16) rfl,.imm e17 rfl,(hL30.mono h16).mono h17⟩)
    refine Qr Yp rfl rfl (fun b_16=>?_)
    refine Qb ?_
    refine zD hD ?_
    refine qd 1 rfl ?_
    refine Q3 YI rfl rfl (by omega) (by decide) rfl rfl (fun b_127=>?_)
    refine Qb ?_
    refine zD hD ?_
    refine qd 6 rfl ?_
    refine zS Zg ?_
    refine Qb ?_
    refine zD hD ?_
    refine qd 7 rfl ?_
    refine zS Zg ?_
    refine Qb ?_
    refine zD hD ?_
    refine QF (by kernel_rfl) ?_
    refine QQ ?_
    rw [show ((loW xs:Nat):Int).toNat=loW xs from rfl,Q2,Zd]
    refine QL (b:=b_16) (by repeat (first | exact Q8.here | apply Q8.there)) (fun I16 h16 e16=>?_)
    refine QL (b:=b_17) (by repeat (first | exact Q8.here | apply Q8.there)) (fun I17 h17 e17=>?_)
    exact zn (h:=⟨b_16,b_17,b_127,_,_,rfl,(hKc30.trans h16).trans h17,rfl,.imm (h17 _ _ e16) rfl,.imm e17 rfl,(hL30.mono h16).mono h17⟩)
   ·
    refine Qr Yp rfl rfl (fun b_16=>?_)
    refine Qb ?_
    refine zD hD ?_
    refine KX 1 3 5 rfl rfl rfl (by kernel_rfl) ?_ ?_ ?_
    ·
     refine Q3 YI rfl rfl (by omega) (by decide) rfl rfl (fun b_127=>?_)
     refine Qb ?_
     refine zD hD ?_
     refine Zr 3 5 rfl rfl (by kernel_rfl) ?_ ?_
     ·
      refine Qx (cap:=[]) (vs:=[_]) rfl rfl Vi .nil (Yo hR (by omega) _ _) rfl rfl ?_
      rintro vv18 I18 L18 hI18 ⟨rfl,av30,c30,rfl,hL30⟩
      have hKc30:=hKc30.trans hI18;have hD:=hD.trans hI18
      rw [hcsi] at hL30 ⊢
      refine Qb ?_
      refine zD hD ?_
      refine qd 5 rfl ?_
      refine Qr Yp rfl rfl (fun b_17=>?_)
      refine Qb ?_
      refine zD hD ?_
      refine qd 6 rfl ?_
      refine zS Zg ?_
      refine Qb ?_
      refine zD hD ?_
      refine qd 7 rfl ?_
      refine zS Zg ?_
      refine Qb ?_
      refine zD hD ?_
      refine QF (by kernel_rfl) ?_
      refine QQ ?_
      rw [show ((loW xs:Nat):Int).toNat=loW xs from rfl,Q2,Zd]
      refine QL (b:=b_16) (by repeat (first | exact Q8.here | apply Q8.there)) (fun I16 h16 e16=>?_)
      refine QL (b:=b_17) (by repeat (first | exact Q8.here | apply Q8.there)) (fun I17 h17 e17=>?_)
      exact zn (h:=⟨b_16,b_17,b_127,_,_,rfl,(hKc30.trans h16).trans h17,rfl,.imm (h17 _ _ e16) rfl,.imm e17 rfl,(hL30.mono h16).mono h17⟩)
     refine Qr Yp rfl rfl (fun b_17=>?_)
     refine Qb ?_
     refine zD hD ?_
     refine qd 3 rfl ?_
     refine Qx (cap:=[]) (vs:=[_]) rfl rfl Vi .nil (Yo hR (by omega) _ _) rfl rfl ?_
     rintro vv19 I19 L19 hI19 ⟨rfl,av30,c30,rfl,hL30⟩
     have hKc30:=hKc30.trans hI19;have hD:=hD.trans hI19
     rw [hcsi] at hL30 ⊢
     refine Qb ?_
     refine zD hD ?_
     refine qd 6 rfl ?_
     refine zS Zg ?_
     refine Qb ?_
     refine zD hD ?_
     refine qd 7 rfl ?_
     refine zS Zg ?_
     refine Qb ?_
     refine zD hD ?_
     refine QF (by kernel_rfl) ?_
     refine QQ ?_
     rw [show ((loW xs:Nat):Int).toNat=loW xs from rfl,Q2,Zd]
     refine QL (b:=b_16) (by repeat (first | exact Q8.here | apply Q8.there)) (fun I16 h16 e16=>?_)
     refine QL (b:=b_17) (by repeat (first | exact Q8.here | apply Q8.there)) (fun I17 h17 e17=>?_)
     exact zn (h:=⟨b_16,b_17,b_127,_,_,rfl,(hKc30.trans h16).trans h17,rfl,.imm (h17 _ _ e16) rfl,.imm e17 rfl,(hL30.mono h16).mono h17⟩)
    ·
     refine Qx (cap:=[]) (vs:=[_]) rfl rfl Vi .nil (Yo hR (by omega) _ _) rfl rfl ?_
     rintro vv20 I20 L20 hI20 ⟨rfl,av30,c30,rfl,hL30⟩
     have hKc30:=hKc30.trans hI20;have hD:=hD.trans hI20
     rw [hcsi] at hL30 ⊢
     refine Qb ?_
     refine zD hD ?_
     refine Zr 1 5 rfl rfl (by kernel_rfl) ?_ ?_
     ·
      refine Q3 YI rfl rfl (by omega) (by decide) rfl rfl (fun b_127=>?_)
      refine Qb ?_
      refine zD hD ?_
      refine qd 5 rfl ?_
      refine Qr Yp rfl rfl (fun b_17=>?_)
      refine Qb ?_
      refine zD hD ?_
      refine qd 6 rfl ?_
      refine zS Zg ?_
      refine Qb ?_
      refine zD hD ?_
      refine qd 7 rfl ?_
      refine zS Zg ?_
      refine Qb ?_
      refine zD hD ?_
      refine QF (by kernel_rfl) ?_
      refine QQ ?_
      rw [show ((loW xs:Nat):Int).toNat=loW xs from rfl,Q2,Zd]
      refine QL (b:=b_16) (by repeat (first | exact Q8.here | apply Q8.there)) (fun I16 h16 e16=>?_)
      refine QL (b:=b_17) (by repeat (first | exact Q8.here | apply Q8.there)) (fun I17 h17 e17=>?_)
      exact zn (h:=⟨b_16,b_17,b_127,_,_,rfl,(hKc30.trans h16).trans h17,rfl,.imm (h17 _ _ e16) rfl,.imm e17 rfl,(hL30.mono h16).mono h17⟩)
     refine Qr Yp rfl rfl (fun b_17=>?_)
     refine Qb ?_
     refine zD hD ?_
     refine qd 1 rfl ?_
     refine Q3 YI rfl rfl (by omega) (by decide) rfl rfl (fun b_127=>?_)
     refine Qb ?_
     refine zD hD ?_
     refine qd 6 rfl ?_
     refine zS Zg ?_
     refine Qb ?_
     refine zD hD ?_
     refine qd 7 rfl ?_
     refine zS Zg ?_
     refine Qb ?_
     refine zD hD ?_
     refine QF (by kernel_rfl) ?_
     refine QQ ?_
     rw [show ((loW xs:Nat):Int).toNat=loW xs from rfl,Q2,Zd]
     refine QL (b:=b_16) (by repeat (first | exact Q8.here | apply Q8.there)) (fun I16 h16 e16=>?_)
     refine QL (b:=b_17) (by repeat (first | exact Q8.here | apply Q8.there)) (fun I17 h17 e17=>?_)
     exact zn (h:=⟨b_16,b_17,b_127,_,_,rfl,(hKc30.trans h16).trans h17,rfl,.imm (h17 _ _ e16) rfl,.imm e17 rfl,(hL30.mono h16).mono h17⟩)
    refine Qr Yp rfl rfl (fun b_17=>?_)
    refine Qb ?_
    refine zD hD ?_
    refine Zr 1 3 rfl rfl (by kernel_rfl) ?_ ?_
    ·
     refine Q3 YI rfl rfl (by omega) (by decide) rfl rfl (fun b_127=>?_)
     refine Qb ?_
     refine zD hD ?_
     refine qd 3 rfl ?_
     refine Qx (cap:=[]) (vs:=[_]) rfl rfl Vi .nil (Yo hR (by omega) _ _) rfl rfl ?_
     rintro vv21 I21 L21 hI21 ⟨rfl,av30,c30,rfl,hL30⟩
     have hKc30:=hKc30.trans hI21;have hD:=hD.trans hI21
     rw [hcsi] at hL30 ⊢
     refine Qb ?_
     refine zD hD ?_
     refine qd 6 rfl ?_
     refine zS Zg ?_
     refine Qb ?_
     refine zD hD ?_
     refine qd 7 rfl ?_
     refine zS Zg ?_
     refine Qb ?_
     refine zD hD ?_
     refine QF (by kernel_rfl) ?_
     refine QQ ?_
     rw [show ((loW xs:Nat):Int).toNat=loW xs from rfl,Q2,Zd]
     refine QL (b:=b_16) (by repeat (first | exact Q8.here | apply Q8.there)) (fun I16 h16 e16=>?_)
     refine QL (b:=b_17) (by repeat (first | exact Q8.here | apply Q8.there)) (fun I17 h17 e17=>?_)
     exact zn (h:=⟨b_16,b_17,b_127,_,_,rfl,(hKc30.trans h16).trans h17,rfl,.imm (h17 _ _ e16) rfl,.imm e17 rfl,(hL30.mono h16).mono h17⟩)
    refine Qx (cap:=[]) (vs:=[_]) rfl rfl Vi .nil (Yo hR (by omega) _ _) rfl rfl ?_
    rintro vv22 I22 L22 hI22 ⟨rfl,av30,c30,rfl,hL30⟩
    have hKc30:=hKc30.trans hI22;have hD:=hD.trans hI22
    rw [hcsi] at hL30 ⊢
    refine Qb ?_
    refine zD hD ?_
    refine qd 1 rfl ?_
    refine Q3 YI rfl rfl (by omega) (by decide) rfl rfl (fun b_127=>?_)
    refine Qb ?_
    refine zD hD ?_
    refine qd 6 rfl ?_
    refine zS Zg ?_
    refine Qb ?_
    refine zD hD ?_
    refine qd 7 rfl ?_
    refine zS Zg ?_
    refine Qb ?_
    refine zD hD ?_
    refine QF (by kernel_rfl) ?_
    refine QQ ?_
    rw [show ((loW xs:Nat):Int).toNat=loW xs from rfl,Q2,Zd]
    refine QL (b:=b_16) (by repeat (first | exact Q8.here | apply Q8.there)) (fun I16 h16 e16=>?_)
    refine QL (b:=b_17) (by repeat (first | exact Q8.here | apply Q8.there)) (fun I17 h17 e17=>?_)
    exact zn (h:=⟨b_16,b_17,b_127,_,_,rfl,(hKc30.trans h16).trans h17,rfl,.imm (h17 _ _ e16) rfl,.imm e17 rfl,(hL30.mono h16).mono h17⟩)
   refine Qr Yp rfl rfl (fun b_17=>?_)
   refine Qb ?_
   refine zD hD ?_
   refine KX 1 3 4 rfl rfl rfl (by kernel_rfl) ?_ ?_ ?_
   ·
    refine Q3 YI rfl rfl (by omega) (by decide) rfl rfl (fun b_127=>?_)
    refine Qb ?_
    refine zD hD ?_
    refine Zr 3 4 rfl rfl (by kernel_rfl) ?_ ?_
    ·
     refine Qx (cap:=[]) (vs:=[_]) rfl rfl Vi .nil (Yo hR (by omega) _ _) rfl rfl ?_
     rintro vv23 I23 L23 hI23 ⟨rfl,av30,c30,rfl,hL30⟩
     have hKc30:=hKc30.trans hI23;have hD:=hD.trans hI23
     rw [hcsi] at hL30 ⊢
     refine Qb ?_
     refine zD hD ?_
     refine qd 4 rfl ?_
     refine Qr Yp rfl rfl (fun b_16=>?_)
     refine Qb ?_
     refine zD hD ?_
     refine qd 6 rfl ?_
     refine zS Zg ?_
     refine Qb ?_
     refine zD hD ?_
     refine qd 7 rfl ?_
     refine zS Zg ?_
     refine Qb ?_
     refine zD hD ?_
     refine QF (by kernel_rfl) ?_
     refine QQ ?_
     rw [show ((loW xs:Nat):Int).toNat=loW xs from rfl,Q2,Zd]
     refine QL (b:=b_16) (by repeat (first | exact Q8.here | apply Q8.there)) (fun I16 h16 e16=>?_)
     refine QL (b:=b_17) (by repeat (first | exact Q8.here | apply Q8.there)) (fun I17 h17 e17=>?_)
     exact zn (h:=⟨b_16,b_17,b_127,_,_,rfl,(hKc30.trans h16).trans h17,rfl,.imm (h17 _ _ e16) rfl,.imm e17 rfl,(hL30.mono h16).mono h17⟩)
    refine Qr Yp rfl rfl (fun b_16=>?_)
    refine Qb ?_
    refine zD hD ?_
    refine qd 3 rfl ?_
    refine Qx (cap:=[]) (vs:=[_]) rfl rfl Vi .nil (Yo hR (by omega) _ _) rfl rfl ?_
    rintro vv24 I24 L24 hI24 ⟨rfl,av30,c30,rfl,hL30⟩
    have hKc30:=hKc30.trans hI24;have hD:=hD.trans hI24
    rw [hcsi] at hL30 ⊢
    refine Qb ?_
    refine zD hD ?_
    refine qd 6 rfl ?_
    refine zS Zg ?_
    refine Qb ?_
    refine zD hD ?_
    refine qd 7 rfl ?_
    refine zS Zg ?_
    refine Qb ?_
    refine zD hD ?_
    refine QF (by kernel_rfl) ?_
    refine QQ ?_
    rw [show ((loW xs:Nat):Int).toNat=loW xs from rfl,Q2,Zd]
    refine QL (b:=b_16) (by repeat (first | exact Q8.here | apply Q8.there)) (fun I16 h16 e16=>?_)
    refine QL (b:=b_17) (by repeat (first | exact Q8.here | apply Q8.there)) (fun I17 h17 e17=>?_)
    exact zn (h:=⟨b_16,b_17,b_127,_,_,rfl,(hKc30.trans h16).trans h17,rfl,.imm (h17 _ _ e16) rfl,.imm e17 rfl,(hL30.mono h16).mono h17⟩)
   ·
    refine Qx (cap:=[]) (vs:=[_]) rfl rfl Vi .nil (Yo hR (by omega) _ _) rfl rfl ?_
    rintro vv25 I25 L25 hI25 ⟨rfl,av30,c30,rfl,hL30⟩
    have hKc30:=hKc30.trans hI25;have hD:=hD.trans hI25
    rw [hcsi] at hL30 ⊢
    refine Qb ?_
    refine zD hD ?_
    refine Zr 1 4 rfl rfl (by kernel_rfl) ?_ ?_
    ·
     refine Q3 YI rfl rfl (by omega) (by decide) rfl rfl (fun b_127=>?_)
     refine Qb ?_
     refine zD hD ?_
     refine qd 4 rfl ?_
     refine Qr Yp rfl rfl (fun b_16=>?_)
     refine Qb ?_
     refine zD hD ?_
     refine qd 6 rfl ?_
     refine zS Zg ?_
     refine Qb ?_
     refine zD hD ?_
     refine qd 7 rfl ?_
     refine zS Zg ?_
     refine Qb ?_
     refine zD hD ?_
     refine QF (by kernel_rfl) ?_
     refine QQ ?_
     rw [show ((loW xs:Nat):Int).toNat=loW xs from rfl,Q2,Zd]
     refine QL (b:=b_16) (by repeat (first | exact Q8.here | apply Q8.there)) (fun I16 h16 e16=>?_)
     refine QL (b:=b_17) (by repeat (first | exact Q8.here | apply Q8.there)) (fun I17 h17 e17=>?_)
     exact zn (h:=⟨b_16,b_17,b_127,_,_,rfl,(hKc30.trans h16).trans h17,rfl,.imm (h17 _ _ e16) rfl,.imm e17 rfl,(hL30.mono h16).mono h17⟩)
    refine Qr Yp rfl rfl (fun b_16=>?_)
    refine Qb ?_
    refine zD hD ?_
    refine qd 1 rfl ?_
    refine Q3 YI rfl rfl (by omega) (by decide) rfl rfl (fun b_127=>?_)
    refine Qb ?_
    refine zD hD ?_
    refine qd 6 rfl ?_
    refine zS Zg ?_
    refine Qb ?_
    refine zD hD ?_
    refine qd 7 rfl ?_
    refine zS Zg ?_
    refine Qb ?_
    refine zD hD ?_
    refine QF (by kernel_rfl) ?_
    refine QQ ?_
    rw [show ((loW xs:Nat):Int).toNat=loW xs from rfl,Q2,Zd]
    refine QL (b:=b_16) (by repeat (first | exact Q8.here | apply Q8.there)) (fun I16 h16 e16=>?_)
    refine QL (b:=b_17) (by repeat (first | exact Q8.here | apply Q8.there)) (fun I17 h17 e17=>?_)
    exact zn (h:=⟨b_16,b_17,b_127,_,_,rfl,(hKc30.trans h16).trans h17,rfl,.imm (h17 _ _ e16) rfl,.imm e17 rfl,(hL30.mono h16).mono h17⟩)
   refine Qr Yp rfl rfl (fun b_16=>?_)
   refine Qb ?_
   refine zD hD ?_
   refine Zr 1 3 rfl rfl (by kernel_rfl) ?_ ?_
   ·
    refine Q3 YI rfl rfl (by omega) (by decide) rfl rfl (fun b_127=>?_)
    refine Qb ?_
    refine zD hD ?_
    refine qd 3 rfl ?_
    refine Qx (cap:=[]) (vs:=[_]) rfl rfl Vi .nil (Yo hR (by omega) _ _) rfl rfl ?_
    rintro vv26 I26 L26 hI26 ⟨rfl,av30,c30,rfl,hL30⟩
    have hKc30:=hKc30.trans hI26;have hD:=hD.trans hI26
    rw [hcsi] at hL30 ⊢
    refine Qb ?_
    refine zD hD ?_
    refine qd 6 rfl ?_
    refine zS Zg ?_
    refine Qb ?_
    refine zD hD ?_
    refine qd 7 rfl ?_
    refine zS Zg ?_
    refine Qb ?_
    refine zD hD ?_
    refine QF (by kernel_rfl) ?_
    refine QQ ?_
    rw [show ((loW xs:Nat):Int).toNat=loW xs from rfl,Q2,Zd]
    refine QL (b:=b_16) (by repeat (first | exact Q8.here | apply Q8.there)) (fun I16 h16 e16=>?_)
    refine QL (b:=b_17) (by repeat (first | exact Q8.here | apply Q8.there)) (fun I17 h17 e17=>?_)
    exact zn (h:=⟨b_16,b_17,b_127,_,_,rfl,(hKc30.trans h16).trans h17,rfl,.imm (h17 _ _ e16) rfl,.imm e17 rfl,(hL30.mono h16).mono h17⟩)
   refine Qx (cap:=[]) (vs:=[_]) rfl rfl Vi .nil (Yo hR (by omega) _ _) rfl rfl ?_
   rintro vv27 I27 L27 hI27 ⟨rfl,av30,c30,rfl,hL30⟩
   have hKc30:=hKc30.trans hI27;have hD:=hD.trans hI27
   rw [hcsi] at hL30 ⊢
   refine Qb ?_
   refine zD hD ?_
   refine qd 1 rfl ?_
   refine Q3 YI rfl rfl (by omega) (by decide) rfl rfl (fun b_127=>?_)
   refine Qb ?_
   refine zD hD ?_
   refine qd 6 rfl ?_
   refine zS Zg ?_
   refine Qb ?_
   refine zD hD ?_
   refine qd 7 rfl ?_
   refine zS Zg ?_
   refine Qb ?_
   refine zD hD ?_
   refine QF (by kernel_rfl) ?_
   refine QQ ?_
   rw [show ((loW xs:Nat):Int).toNat=loW xs from rfl,Q2,Zd]
   refine QL (b:=b_16) (by repeat (first | exact Q8.here | apply Q8.there)) (fun I16 h16 e16=>?_)
   refine QL (b:=b_17) (by repeat (first | exact Q8.here | apply Q8.there)) (fun I17 h17 e17=>?_)
   exact zn (h:=⟨b_16,b_17,b_127,_,_,rfl,(hKc30.trans h16).trans h17,rfl,.imm (h17 _ _ e16) rfl,.imm e17 rfl,(hL30.mono h16).mono h17⟩)
  rintro ms E J28 loc' ⟨b16,b17,b127,av17,c17,rfl,hJ30,rfl,hC16,hC17,hL17⟩
  have hT:=hT.mono hJ30;have hC6:=hC6.mono hJ30;have hC10:=hC10.mono hJ30;have hAt:=hAt.mono hJ30;have hWd:=hWd.mono hJ30;have hPs:=hPs.mono hJ30;have hre:=hre.mono hJ30;have hPf:=hPf.mono hJ30;have hB6:=hB6.trans hJ30
  refine znW [(2,_),(4,_),(5,_),(6,_),(10,_),(11,_),(14,_),(16,_),(17,_),(119,_),(120,_),(121,_)] (.cons rfl (.cons rfl (.cons rfl (.cons rfl (.cons rfl (.cons rfl (.cons rfl (.cons rfl (.cons rfl (.cons rfl (.cons rfl (.cons rfl .nil)))))))))))) (fun T L0 ms E I' loc'=>E=T∧HLe J28 I'∧(b127,.cells (Zh (Ve (loW xs) ((if i=0 then txF (wdW xs) (csW xs 0) (csW xs 0).length else fun _=>0)))) 3 (0,0))::(L++MB ms)=loc') ?_ ?_
  ·
   have hKc31:=zyv J28
   refine zR (zM ?_)
   refine zC (zN ?_)
   refine zI ?_ ?_<;>intro hc131
   ·
    have hi0:i=0:=by have h:=hc131;simp at h;omega
    refine zR (zM ?_)
    refine zQ Qy ?_
    refine zM (zN (Qm ?_))
    refine Ug [(2,_),(4,_),(5,_),(6,_),(10,_),(11,_),(14,_),(16,_),(17,_),(119,_),(120,_),(121,_),(132,_),(133,_)] (.cons rfl (.cons rfl (.cons rfl (.cons rfl (.cons rfl (.cons rfl (.cons rfl (.cons rfl (.cons rfl (.cons rfl (.cons rfl (.cons rfl (.cons rfl (.cons rfl .nil)))))))))))))) (fun T L0 mz ms E I' loc'=>∃ (k:Nat),mz=(csW xs 0).length-k∧E=(134,.int .i64 k)::T∧J28=I'∧(b127,.cells (Zh (Ve (loW xs) (txF (wdW xs) (csW xs 0) k))) 3 (0,0))::(L++MB ms)=loc'∧k≤(csW xs 0).length) _ _ _ _ ⟨0,rfl,rfl,rfl,rfl,Nat.zero_le _⟩ (.cons rfl (.cons rfl (.cons rfl (.cons rfl (.cons rfl (.cons rfl (.cons rfl (.cons rfl (.cons rfl (.cons rfl (.cons rfl (.cons rfl (.cons rfl (.cons rfl (.cons rfl .nil))))))))))))))) (zyv _) rfl ?_
    rintro mz ms E I' loc' ⟨k,rfl,rfl,rfl,rfl,hk⟩
    refine zR (zC (zN (Ql ?_)))
    refine zI ?_ ?_<;>intro hc135
    ·
     have hlt_k:k<(csW xs 0).length:=by have h:=hc135;simp at h;omega
     obtain ⟨tk,hTk⟩:=hT.at hlt_k
     have hps:=znm hlt_k
     have hf1:Yz (VN (wdW xs)) k=(((VN (wdW xs)) k:Nat):Int):=rfl
     have hf2:Yz (wdW xs) k=(((wdW xs) k:Nat):Int):=rfl
     refine Qo (Qa (Ql (Qm (zR (zM ?_)))))
     refine zV (zX Qy hT) ?_
     refine zV (Qd rfl Qt (fun hg=>by exact zyo hT hTk rfl)) ?_
     refine zA ?_
     refine zA (zN ?_)
     have hD:=zyv J28
     refine Jn ?_
     refine Z8 J28 [] mixed ?_
     refine zT 0 rfl (Qd rfl QK (fun hg=>by exact hC16.any)) hD ?_
     refine zT 1 rfl (Qd rfl QK (fun hg=>by exact hC10.any)) hD ?_
     refine zT 2 rfl (Qi rfl) hD ?_
     refine zT 3 rfl (zX Qy hAt) hD ?_
     refine zT 4 rfl (Qd rfl Qt (fun hg=>by exact zyo (k:=k) hAt (Yy (show k<_ by omega)) rfl)) hD ?_
     refine zT 5 rfl (Qd rfl QK (fun hg=>by exact hC6.any)) hD ?_
     refine zT 6 rfl (Qi rfl) hD ?_
     refine zT 7 rfl (zX Qy hWd) hD ?_
     refine zT 8 rfl (Qd rfl Qt (fun hg=>by exact zyo (k:=k) hWd (Yy (show k<_ by omega)) rfl)) hD ?_
     refine zT 9 rfl (ZS rfl rfl rfl (fun hg=>by omega)) hD ?_
     refine zT 10 rfl (Qi rfl) hD ?_
     refine zT 11 rfl (Q6 rfl rfl Qy (fun hg=>by omega)) hD ?_
     refine qd 12 rfl ?_
     refine ZG rfl rfl Yf rfl rfl (by repeat (first | exact Upd.here | apply Upd.there | apply QI)) (by rw [show Yz (VN (wdW xs)) k+Yz (wdW xs) k=((VN (wdW xs) k+wdW xs k:Nat):Int) from rfl];exact ztC (by rw [Z9];omega)) ?_
     refine Qb ?_
     refine zD hD ?_
     refine QF (by kernel_rfl) ?_
     refine QQ ?_
     rw [show Yz (VN (wdW xs)) k+Yz (wdW xs) k=((VN (wdW xs) k+wdW xs k:Nat):Int) from rfl,Vq,Ju,←Q1 (d:=0) hTk]
     refine Qh (Qa (Qg (zB ?_)))
     refine zM (Qb ?_)
     exact zd (h:=⟨(csW xs 0).length-(k+1),by omega,k+1,rfl,rfl,rfl,rfl,by omega⟩)
    have hge_k:(csW xs 0).length≤k:=by have h:=hc135;simp at h;omega
    obtain rfl:k=(csW xs 0).length:=by omega
    refine QH (Qe (Qe (Qk ?_)))
    exact zbA rfl rfl rfl _ _ ⟨rfl,hKc31,by rw [if_pos hi0]⟩ (.cons rfl (.cons rfl (.cons rfl (.cons rfl (.cons rfl (.cons rfl (.cons rfl (.cons rfl (.cons rfl (.cons rfl (.cons rfl (.cons rfl .nil)))))))))))) .refl
   have hi0:¬i=0:=by have h:=hc131;simp at h;omega
   refine Qo ?_
   exact zbA rfl rfl rfl _ _ ⟨rfl,hKc31,by rw [if_neg hi0]⟩ (.cons rfl (.cons rfl (.cons rfl (.cons rfl (.cons rfl (.cons rfl (.cons rfl (.cons rfl (.cons rfl (.cons rfl (.cons rfl (.cons rfl .nil)))))))))))) .refl
  rintro ms E J30 loc' ⟨rfl,hJ131,rfl⟩
  have hC6:=hC6.mono hJ131;have hC10:=hC10.mono hJ131;have hAt:=hAt.mono hJ131;have hWd:=hWd.mono hJ131;have hPs:=hPs.mono hJ131;have hre:=hre.mono hJ131;have hPf:=hPf.mono hJ131;have hC16:=hC16.mono hJ131;have hC17:=hC17.mono hJ131;have hL17:=hL17.mono hJ131;have hB6:=hB6.trans hJ131
  refine Ql (zR (zM ?_))
  refine zM ?_
  refine zV (zX zbv hPs) ?_
  refine zV (Qd rfl ze9 (fun hg=>by exact zyo hPs hhp rfl)) ?_
  refine zQ K9 ?_
  refine zM (zN (Qm ?_))
  refine Ug [(2,_),(4,_),(5,_),(6,_),(10,_),(11,_),(14,_),(16,_),(17,_),(119,_),(120,_),(121,_),(155,_),(156,_)] (.cons rfl (.cons rfl (.cons rfl (.cons rfl (.cons rfl (.cons rfl (.cons rfl (.cons rfl (.cons rfl (.cons rfl (.cons rfl (.cons rfl (.cons rfl (.cons rfl .nil)))))))))))))) (fun T L0 mz ms E I' loc'=>∃ (k:Nat),mz=(pfW xs i).length-k∧E=(157,.int .i64 k)::T∧J30=I'∧(b127,.cells (Zh (Ve (loW xs) (((pfW xs i).take k).foldl (prF (wdW xs) (csW xs i)) (if i=0 then txF (wdW xs) (csW xs 0) (csW xs 0).length else fun _=>0)))) 3 (0,0))::(L++MB ms)=loc'∧k≤(pfW xs i).length) _ _ _ _ ⟨0,rfl,rfl,rfl,rfl,Nat.zero_le _⟩ (.cons rfl (.cons rfl (.cons rfl (.cons rfl (.cons rfl (.cons rfl (.cons rfl (.cons rfl (.cons rfl (.cons rfl (.cons rfl (.cons rfl (.cons rfl (.cons rfl (.cons rfl .nil))))))))))))))) (zyv _) rfl ?_
  rintro mz ms E I' loc' ⟨k,rfl,rfl,rfl,rfl,hk⟩
  refine zR (zC (zN (Ql ?_)))
  refine zI ?_ ?_<;>intro hc158
  ·
   have hlt_k:k<(pfW xs i).length:=by have h:=hc158;simp at h;omega
   obtain ⟨y,hy⟩:=hPf.at (show k<_ by omega)
   obtain ⟨y1,y2,y3,y4⟩:=zsY hy
   refine Qo (Qa (Ql (Qm (zR ?_))))
   refine zV (zX K9 hPf) ?_
   refine zV (Qp rfl zaG (fun hg=>by exact zyw hPf hy) rfl) ?_
   refine Qr KI rfl rfl (fun b_21=>?_)
   refine zh ziJ ?_
   refine zN (zR ?_)
   refine zV (Zp rfl rfl YN (fun hg=>by decide)) ?_
   refine zL Qt ?_
   refine zC ?_
   refine zM ?_
   refine QG 3 rfl rfl rfl ?_
   refine zK (Zp rfl rfl YN (fun hg=>by decide)) ?_
   refine zK (Qd rfl Qt (fun hg=>by exact QV.h0 rfl)) ?_
   refine zK (QJ rfl rfl rfl) ?_
   refine QO rfl rfl rfl rfl rfl ?_
   refine zN ?_
   refine zI ?_ ?_<;>intro hc168
   ·
    have hy5:y.1>0∧y.2>0:=by have h:=hc168;simp at h;exact h
    have hps:=znm (xs:=xs) (k:=(y.1-1).toNat) (by omega)
    have hf1:Yz (VN (wdW xs)) (y.1-1).toNat=(((VN (wdW xs)) (y.1-1).toNat:Nat):Int):=rfl
    have hf2:Yz (wdW xs) (y.1-1).toNat=(((wdW xs) (y.1-1).toNat:Nat):Int):=rfl
    have hD:=zyv J30
    refine Jn ?_
    refine Z8 J30 [(b_21,.cells (VO y).toArray 79 (0,0))] mixed ?_
    refine zT 0 rfl (Qd rfl QK (fun hg=>by exact hC16.any)) hD ?_
    refine zT 1 rfl (Qd rfl QK (fun hg=>by exact hC10.any)) hD ?_
    refine zT 2 rfl (Zp rfl rfl YN (fun hg=>by decide)) hD ?_
    refine zT 3 rfl (Qd rfl Qt (fun hg=>by exact QV.h0 rfl)) hD ?_
    refine zT 4 rfl (ZS rfl rfl rfl (fun hg=>by omega)) hD ?_
    refine zT 5 rfl (zX Qy hAt) hD ?_
    refine zT 6 rfl (Qd rfl Qt (fun hg=>by exact zyo (k:=(y.1-1).toNat) hAt (Yy (by omega)) rfl)) hD ?_
    refine zT 7 rfl (Qd rfl QK (fun hg=>by exact hC6.any)) hD ?_
    refine zT 8 rfl (Zp rfl rfl YN (fun hg=>by decide)) hD ?_
    refine zT 9 rfl (Qd rfl Qt (fun hg=>by exact QV.h0 rfl)) hD ?_
    refine zT 10 rfl (ZS rfl rfl rfl (fun hg=>by omega)) hD ?_
    refine zT 11 rfl (zX Qy hWd) hD ?_
    refine zT 12 rfl (Qd rfl Qt (fun hg=>by exact zyo (k:=(y.1-1).toNat) hWd (Yy (by omega)) rfl)) hD ?_
    refine zT 13 rfl (ZS rfl rfl rfl (fun hg=>by omega)) hD ?_
    refine zT 14 rfl (Qd rfl QK (fun hg=>by exact hC17.any)) hD ?_
    refine zT 15 rfl (Zp rfl rfl YN (fun hg=>by decide)) hD ?_
    refine zT 16 rfl (Qd rfl Qt (fun hg=>by exact QV.h0 rfl)) hD ?_
    refine zT 17 rfl (ZS rfl rfl rfl (fun hg=>by omega)) hD ?_
    refine zT 18 rfl (zX Qy hL17) hD ?_
    refine zT 19 rfl (Qd rfl Qt (fun hg=>by exact zyo (k:=(y.2-1).toNat) hL17 (Zj (d:=0) rfl (by omega)) rfl)) hD ?_
    refine zT 20 rfl (Q6 rfl rfl Qy (fun hg=>by omega)) hD ?_
    refine qd 21 rfl ?_
    refine ZG rfl rfl Yf rfl rfl (by repeat (first | exact Upd.here | apply Upd.there | apply QI)) (by rw [show Yz (VN (wdW xs)) (y.1-1).toNat+Yz (wdW xs) (y.1-1).toNat=((VN (wdW xs) (y.1-1).toNat+wdW xs (y.1-1).toNat:Nat):Int) from rfl];exact ztC (by rw [Z9];omega)) ?_
    refine Qb ?_
    refine zD hD ?_
    refine QF (by kernel_rfl) ?_
    refine QQ ?_
    rw [show Yz (VN (wdW xs)) (y.1-1).toNat+Yz (wdW xs) (y.1-1).toNat=((VN (wdW xs) (y.1-1).toNat+wdW xs (y.1-1).toNat:Nat):Int) from rfl,Vq,Ju]
    refine Qh (Qa (Qg (zB ?_)))
    refine zM (Qb ?_)
    exact zd (h:=⟨(pfW xs i).length-(k+1),by omega,k+1,rfl,rfl,rfl,by rw [zex hy,zgM hc168],by omega⟩)
   refine Qo (Qh (Qa (Qg (zB ?_))))
   refine zM (Qb ?_)
   exact zd (h:=⟨(pfW xs i).length-(k+1),by omega,k+1,rfl,rfl,rfl,by rw [zex hy,znz hc168],by omega⟩)
  have hge_k:(pfW xs i).length≤k:=by have h:=hc158;simp at h;omega
  rw [List.take_of_length_le hge_k]
  refine QH (Qe (Qe (Qk (Qa (zR (zM ?_))))))
  refine zQ Qy ?_
  refine zB ?_
  refine Q3 YI rfl rfl (by omega) (by decide) rfl rfl (fun b_194=>?_)
  refine Qr Yp rfl rfl (fun b_22=>?_)
  refine zS Zg ?_
  refine Qb ?_
  have e1:(((csW xs 0).length:Nat):Int)+1=(((csW xs 0).length+1:Nat):Int):=rfl
  rw [e1,show (((csW xs 0).length+1:Nat):Int).toNat=(csW xs 0).length+1 from rfl,Q2,Zd,Uz]
  refine Ze (b:=b_22) (by repeat (first | exact Q8.here | apply Q8.there)) (fun I32 hI32 hb32=>?_)
  have hC10:=hC10.mono hI32;have hAt:=hAt.mono hI32;have hPs:=hPs.mono hI32;have hre:=hre.mono hI32;have hPf:=hPf.mono hI32;have hC16:=hC16.mono hI32;have hC17:=hC17.mono hI32;have hL17:=hL17.mono hI32;have hB6:=hB6.trans hI32
  have hC22:QV I32 [] b_22 0 (.slice (some ⟨b_194,0,none⟩) ((csW xs 0).length+1) ((csW xs 0).length+1)):=.imm hb32 rfl
  refine Qa (Ql (zR (zM ?_)))
  refine zM ?_
  refine zV (zX zbv hPs) ?_
  refine zV (Qd rfl ze9 (fun hg=>by exact zyo hPs hhp rfl)) ?_
  refine Qx (cap:=[]) (vs:=[_]) rfl rfl znR .nil (zjc _ _ _ _) rfl rfl ?_
  rintro vv33 I33 L33 hI33 ⟨rfl,b1,rfl,hb1⟩
  have hC10:=hC10.mono hI33;have hAt:=hAt.mono hI33;have hre:=hre.mono hI33;have hPf:=hPf.mono hI33;have hC16:=hC16.mono hI33;have hC17:=hC17.mono hI33;have hL17:=hL17.mono hI33;have hC22:=hC22.mono hI33;have hB6:=hB6.trans hI33
  refine zN (Qm ?_)
  refine UV (K:=[]) (L:=(b_194,.cells (Zh (Ve ((csW xs 0).length+1) (Yz (cnt [])))) 3 (0,0))::(b127,.cells (Zh (Ve (loW xs) ((alP (wdW xs) (csW xs i) ((pfW xs i).foldl (prF (wdW xs) (csW xs i)) (if i=0 then txF (wdW xs) (csW xs 0) (csW xs 0).length else fun _=>0)) []).1))) 3 (0,0))::L) (en1:=zxl) (en2:=zw1) (xs:=alW xs i) (fun pre I' loc'=>loc'=(b_194,.cells (Zh (Ve ((csW xs 0).length+1) (Yz (cnt pre)))) 3 (0,0))::(b127,.cells (Zh (Ve (loW xs) ((alP (wdW xs) (csW xs i) ((pfW xs i).foldl (prF (wdW xs) (csW xs i)) (if i=0 then txF (wdW xs) (csW xs 0) (csW xs 0).length else fun _=>0)) pre).1))) 3 (0,0))::L) (fun _ _ _ _=>False) (fun pre x E2 I2 loc2=>E2=[(10,Za b_10),(16,Za b16),(17,Za b17),(22,Za b_22),(23,.int .i64 x.1),(24,.int .i64 x.2)]∧loc2=(b_194,.cells (Zh (Ve ((csW xs 0).length+1) (Yz (cnt pre)))) 3 (0,0))::(b127,.cells (Zh (Ve (loW xs) ((alP (wdW xs) (csW xs i) ((pfW xs i).foldl (prF (wdW xs) (csW xs i)) (if i=0 then txF (wdW xs) (csW xs 0) (csW xs 0).length else fun _=>0)) pre).1))) 3 (0,0))::L) rfl zg1 (zg9 hPf (by omega) (zsZ hrs i) hb1) rfl rfl rfl ?_ ?_ ?_ ?_
  ·
   rintro l9 pre x I1 loc1 H1 hpre hI1 rfl
   refine zR (zA (zN (Qg ?_)))
   refine zA (Qb ?_)
   exact zbU _ ⟨zyv _,rfl,rfl⟩ (.cons rfl (.cons rfl (.cons rfl (.cons rfl (.cons rfl (.cons rfl .nil))))))
  ·
   rintro l9 pre x E2 I2 loc2 H2 hpre hI2 ⟨rfl,rfl⟩
   have hC10:=hC10.mono hI2;have hAt:=hAt.mono hI2;have hC16:=hC16.mono hI2;have hC17:=hC17.mono hI2;have hL17:=hL17.mono hI2;have hC22:=hC22.mono hI2
   obtain ⟨x1,x2,x3,x4,x5⟩:=znt hpre
   have hcb:=Nat.le_trans (@zd8 (alW xs i) x.1.toNat) (zh7 hrs i)
   have hnc:=zbC (f:=cnt pre) (a:=x.1.toNat) (B:=128) (by omega)
   have hp2:=zor x2 hlt_i x5
   have hf1:Yz (VN (wdW xs)) x.1.toNat=(((VN (wdW xs)) x.1.toNat:Nat):Int):=rfl
   have hf2:Yz (cnt pre) x.1.toNat=(((cnt pre) x.1.toNat:Nat):Int):=rfl
   refine Qm (Ql ?_)
   have hD:=zyv I2
   refine Jn ?_
   refine Z8 I2 [(b_194,.cells (Zh (Ve ((csW xs 0).length+1) (Yz (cnt pre)))) 3 (0,0))] mixed ?_
   refine zT 0 rfl (Qd rfl QK (fun hg=>by exact hC16.any)) hD ?_
   refine zT 1 rfl (Qd rfl QK (fun hg=>by exact hC10.any)) hD ?_
   refine zT 2 rfl (Qi rfl) hD ?_
   refine zT 3 rfl (zX Qy hAt) hD ?_
   refine zT 4 rfl (Qd rfl Qt (fun hg=>by exact zyo (k:=x.1.toNat) hAt (Yy (by omega)) rfl)) hD ?_
   refine zT 5 rfl (Qd rfl QK (fun hg=>by exact hC22.any)) hD ?_
   refine zT 6 rfl (Qi rfl) hD ?_
   refine zT 7 rfl (Q6 rfl rfl Qy (fun hg=>by omega)) hD ?_
   refine zT 8 rfl (Qd rfl Qt (fun hg=>by exact V0 (Yy (by omega)))) hD ?_
   refine zT 9 rfl (ZS rfl rfl rfl (fun hg=>by omega)) hD ?_
   refine zT 10 rfl (Qd rfl QK (fun hg=>by exact hC17.any)) hD ?_
   refine zT 11 rfl (Qi rfl) hD ?_
   refine zT 12 rfl (zX Qy hL17) hD ?_
   refine zT 13 rfl (Qd rfl Qt (fun hg=>by exact zyo (k:=x.2.toNat) hL17 (Zj (d:=0) rfl (by omega)) rfl)) hD ?_
   refine zT 14 rfl (Q6 rfl rfl Qy (fun hg=>by omega)) hD ?_
   refine qd 15 rfl ?_
   refine ZG rfl rfl Yf rfl rfl (by repeat (first | exact Upd.here | apply Upd.there | apply QI)) (by rw [show Yz (VN (wdW xs)) x.1.toNat+Yz (cnt pre) x.1.toNat=((VN (wdW xs) x.1.toNat+cnt pre x.1.toNat:Nat):Int) from rfl];exact ztC (by rw [Z9];omega)) ?_
   refine Qb ?_
   refine zD hD ?_
   refine QF (by kernel_rfl) ?_
   refine QQ ?_
   rw [show Yz (VN (wdW xs)) x.1.toNat+Yz (cnt pre) x.1.toNat=((VN (wdW xs) x.1.toNat+cnt pre x.1.toNat:Nat):Int) from rfl,Vq,Ju,←zlU]
   refine Qa (Qg ?_)
   refine zV (Qd rfl QK (fun hg=>by exact hC22.any)) ?_
   refine zM ?_
   refine zV (Q6 rfl rfl Qy (fun hg=>by omega)) ?_
   refine zV (Qd rfl Qt (fun hg=>by exact V0 (Yy (by omega)))) ?_
   refine zB ?_
   refine zV (Q6 rfl rfl Qy (fun hg=>by omega)) ?_
   refine ZG rfl rfl Yf rfl rfl (by repeat (first | exact Upd.here | apply Upd.there | apply QI)) (ztr (by rw [Z9];omega)) ?_
   refine Qb ?_
   rw [Ud,Ju,show Yz (cnt pre) x.1.toNat+1=((cnt pre x.1.toNat+1:Nat):Int) from rfl,zaf,←U3]
   refine Qh ?_
   exact XG ⟨zyv _,rfl⟩ .refl
  ·
   rintro bd I1 loc1 hI1 rfl
   have hre:=hre.mono hI1;have hC16:=hC16.mono hI1;have hB6:=hB6.trans hI1
   refine Qh (Qa ?_)
   refine Ze (b:=b127) (by repeat (first | exact Q8.here | apply Q8.there)) (fun I34 hI34 hb34=>?_)
   have hre:=hre.mono hI34;have hC16:=hC16.mono hI34;have hB6:=hB6.trans hI34
   have hRow:Sl I34 1 QP (some ⟨b127,0,none⟩) (loW xs) (loW xs) (zoQ xs i):=Sl.lit (zoQ xs i) Z9 Qv hb34
   refine Qg (zM ?_)
   refine zV (Qd rfl QK (fun hg=>by exact hC16.any)) ?_
   refine Qq (ps:=[(0,_)]) (m:=[WD ⟨some ⟨b127,0,none⟩,loW xs,loW xs⟩]) zag rfl (.cons rfl (.nil)) rfl (by simp [Q7]) (by decide) (by decide) rfl rfl (fun b_225=>?_)
   refine QW (v:=_) (ys:=[(⟨some ⟨b127,0,none⟩,loW xs,loW xs⟩:Hd)].flatMap WD) (L:=L) rfl rfl zag hO (by repeat (first | exact .cons .here .nil | exact QD | exact Qw | apply QC | apply QA)) ⟨rfl,fun _=>rfl,by repeat (first | exact zyt | apply zys | apply zyu)⟩ (zs7 _) (by omega) rfl rfl ?_
   intro v9 L9 hO9 _;rw [←List.flatMap_append] at hO9
   refine zA (Qb (Qh (Qa (Qg ?_))))
   refine zB ?_
   refine zM (Qb ?_)
   exact zd (h:=⟨xs.length-(i+1),by omega,i+1,_,_,_,rfl,rfl,hB6,rfl,by omega,hO9,by rw [Xt];exact hre.snoc (hd:=⟨some ⟨b127,0,none⟩,loW xs,loW xs⟩) hRow⟩)
  rintro c bd pre I1 loc1 hI1 hpre hF;exact hF.elim
 have hge_i:xs.length≤i:=by have h:=hc122;simp at h;omega
 obtain rfl:i=xs.length:=by omega
 refine QH (Qe (Qe (Qk (Qa (zR (zM ?_))))))
 refine zA ?_
 refine zA (zN (Qs ?_))
 first
 | exact K1 (L:=L) (fun a ha w hw=>zvg rfl rfl rfl a ha w) (fun w hw=>by obtain ⟨I9,av9,c9,h1',h2',e9,h4'⟩:=OwnS.freeze (R:=[]) hO Q7 (by decide) (by rw [List.append_nil];exact hw);cases e9;exact ⟨_,I9,[],rfl,hIc.trans h1',h2',rfl,va2,vc2,by rw [t1,t2,List.length_map,List.length_range],by rw [t2,List.length_map,List.length_range];exact ⟨os,h4',hre.mono h1'⟩⟩)
end
section
open Go Go.Kn Go.Proofs
structure Em where
 locus:Int
 code:Int
 reason:Int
def Yt (e:Em):List Value:=[.int .i64 e.locus,.int .i64 e.code,.int .i64 e.reason]
theorem X9 (e:Em):(Yt e).length=3:=rfl
theorem zun (xs:List Em):Yq (xs.flatMap Yt)=true:=Yk (fun _=>rfl) xs
def r1F (code:Int)(b:Bool):Bool:=(b&&code != 0)&&code != 8589934592
def r2F (code:Int)(b:Bool):Bool:=(Uv code==0)&& !b
def r3F (code:Int)(_:Bool):Bool:=code==0
def rsF (r code:Int)(b:Bool):Bool:=if r=1 then r1F code b else if r=2 then r2F code b else if r=3 then r3F code b else false
def ze4 (rows:List (List Int))(e:Em):Bool:=rows.any fun r=>r.getD e.locus.toNat 0==e.code
def zgy (rows:List (List Int))(m:Nat)(l:Int)(e:Em):Bool:=decide (e.locus≤l)||(decide (e.locus≥(m:Int))|| !rsF e.reason e.code (ze4 rows e))
def WX (rows:List (List Int))(m:Nat):Int→List Em→Bool
 | _,[]=>true
 | l,e::es=> !zgy rows m l e&&WX rows m e.locus es
theorem VE {rows:List (List Int)}{m k:Nat}{l:Int}{es:List Em}{e:Em}(h:es[k]? =some e)(hb:zgy rows m l e=true):WX rows m l (es.drop k)=false:=by rw [Z4 h];unfold WX;rw [hb];rfl
theorem zf8 {rows:List (List Int)}{m k:Nat}{l:Int}{es:List Em}{e:Em}(h:es[k]? =some e)(hb:zgy rows m l e=false):WX rows m l (es.drop k)=WX rows m e.locus (es.drop (k+1)):=by
 rw [Z4 h]
 show (!zgy rows m l e&&WX rows m e.locus (es.drop (k+1)))=_
 rw [hb];rfl
theorem zjC {rows:List (List Int)}{m k:Nat}{l:Int}{es:List Em}(h:es.length≤k):WX rows m l (es.drop k)=true:=by rw [List.drop_eq_nil_of_le h];rfl
theorem zvF {rows:List (List Int)}{m:Nat}{l:Int}{e:Em}(h1:e.reason≠1)(h2:e.reason≠2)(h3:e.reason≠3):zgy rows m l e=true:=by unfold zgy rsF;rw [if_neg h1,if_neg h2,if_neg h3];simp
theorem zuf {rows:List (List Int)}{m:Nat}{l:Int}{e:Em}(h:decide (e.locus≤l)=true):zgy rows m l e=true:=by unfold zgy;rw [h];rfl
theorem zuM {rows:List (List Int)}{m:Nat}{l:Int}{e:Em}(h:decide (e.locus≥(m:Int))=true):zgy rows m l e=true:=by unfold zgy;rw [h];simp
theorem zoc {rows:List (List Int)}{m:Nat}{l:Int}{e:Em}{t:Bool}(h1:decide (e.locus≤l)=false)(h2:decide (e.locus≥(m:Int))=false)(h3:(!rsF e.reason e.code (ze4 rows e))=t):zgy rows m l e=t:=by unfold zgy;rw [h1,h2,h3];rfl
theorem zkJ (_rows:List (List Int))(m:Nat)(l:Int)(e:Em):decide (e.locus≤l)=true∨(decide (e.locus≤l)=false∧decide (e.locus≥(m:Int))=true)∨(decide (e.locus≤l)=false∧decide (e.locus≥(m:Int))=false):=by
 cases decide (e.locus≤l)<;>cases decide (e.locus≥(m:Int))<;>simp
/-! ### The readings -/
def lfK (es:List Em):Nat→List Em
 | 0=>es
 | k+1=>match lfK es k with
  | []=>[]
  | e::r=>if e.locus=(k:Int) then r else e::r
def W0 (rows:List (List Int))(cl:List Int)(k:Nat):Int:=if (Jz rows cl k).any (fun y=>(rows.getD 0 []).getD k 0==y)=true then (rows.getD 0 []).getD k 0 else (Jz rows cl k).getD 0 0
def Wf (rows:List (List Int))(cl:List Int)(es:List Em)(k:Nat):Int:=match lfK es k with
 | []=>W0 rows cl k
 | e::_=>if e.locus=(k:Int) then e.code else W0 rows cl k
def Vx (rows:List (List Int))(cl:List Int)(es:List Em):List Int:=(List.range (rows.getD 0 []).length).map (Wf rows cl es)
theorem zvH {es:List Em}{k:Nat}(h:lfK es k=[]):lfK es (k+1)=[]:=by show (match lfK es k with | []=>[] | e::r=>if e.locus=(k:Int) then r else e::r)=_;rw [h]
theorem ztc {es:List Em}{k:Nat}{e:Em}{r:List Em}(h:lfK es k=e::r)(he:e.locus=(k:Int)):lfK es (k+1)=r:=by show (match lfK es k with | []=>[] | e::r=>if e.locus=(k:Int) then r else e::r)=_;rw [h];exact if_pos he
theorem zwl {es:List Em}{k:Nat}{e:Em}{r:List Em}(h:lfK es k=e::r)(he:¬e.locus=(k:Int)):lfK es (k+1)=e::r:=by show (match lfK es k with | []=>[] | e::r=>if e.locus=(k:Int) then r else e::r)=_;rw [h];exact if_neg he
theorem ztL {rows:List (List Int)}{cl:List Int}{es:List Em}{k:Nat}(h:lfK es k=[]):Wf rows cl es k=W0 rows cl k:=by unfold Wf;rw [h]
theorem ztF {rows:List (List Int)}{cl:List Int}{es:List Em}{k:Nat}{e:Em}{r:List Em}(h:lfK es k=e::r)(he:e.locus=(k:Int)):Wf rows cl es k=e.code:=by unfold Wf;rw [h];exact if_pos he
theorem zxE {rows:List (List Int)}{cl:List Int}{es:List Em}{k:Nat}{e:Em}{r:List Em}(h:lfK es k=e::r)(he:¬e.locus=(k:Int)):Wf rows cl es k=W0 rows cl k:=by unfold Wf;rw [h];exact if_neg he
def Wa (rows:List (List Int))(no:Int)(cl:List Int)(es:List Em):Int:=
 if YB rows cl≠0 then YB rows cl else if (decide (no<0)||decide (no>1048576))=true then 430 else if WX rows (rows.getD 0 []).length (-1) es=true then 0 else 430
theorem zho {rows:List (List Int)}{no:Int}{cl:List Int}{es:List Em}(h:YB rows cl≠0):Wa rows no cl es=YB rows cl:=by unfold Wa;rw [if_pos h]
theorem znr {rows:List (List Int)}{no:Int}{cl:List Int}{es:List Em}(h:YB rows cl=0)(h2:(decide (no<0)||decide (no>1048576))=true):Wa rows no cl es=430:=by unfold Wa;rw [if_neg (by omega),if_pos h2]
theorem WH {rows:List (List Int)}{no:Int}{cl:List Int}{es:List Em}(h:YB rows cl=0)(h2:(decide (no<0)||decide (no>1048576))=false)(h3:WX rows (rows.getD 0 []).length (-1) es=false):Wa rows no cl es=430:=by unfold Wa;rw [if_neg (by omega),if_neg (by rw [h2];decide),if_neg (by rw [h3];decide)]
theorem znO {rows:List (List Int)}{no:Int}{cl:List Int}{es:List Em}(h:YB rows cl=0)(h2:(decide (no<0)||decide (no>1048576))=false)(h3:WX rows (rows.getD 0 []).length (-1) es=true):Wa rows no cl es=0:=by unfold Wa;rw [if_neg (by omega),if_neg (by rw [h2];decide),if_pos h3]
def Z3 (no:Int)(a1:Option Addr)(n1 c1:Nat)(a2:Option Addr)(n2 c2:Nat)(a3:Option Addr)(n3 c3:Nat):List Value:=[.int .i64 no,.slice a1 n1 c1,.slice a2 n2 c2,.slice a3 n3 c3]
def zxY (I:Qu)(vs:List Value)(no:Int)(cl:List Int)(es:List Em)(rd:List Int):Prop:=∃ a1 n1 c1 a2 n2 c2 a3 n3 c3,vs=Z3 no a1 n1 c1 a2 n2 c2 a3 n3 c3∧Sl I 1 QP a1 n1 c1 cl∧Sl I 3 Yt a2 n2 c2 es∧Sl I 1 QP a3 n3 c3 rd
def zxA (rows:List (List Int))(no:Int)(cl:List Int)(es:List Em):Value→Qu→Go.Kn.Loc→Prop:=fun v I' L=>L=[]∧∃ vs,v= .tuple #[.agg vs.toArray,.int .i64 (Wa rows no cl es)]∧
 ((Wa rows no cl es=0∧zxY I' vs no cl es (Vx rows cl es))∨(Wa rows no cl es≠0∧zxY I' vs 0 [] [] []))
theorem zl1 {rows:List (List Int)}{cl:List Int}{k:Nat}(h:YB rows cl=0)(hk:k<(rows.getD 0 []).length):(U1 rows cl)[k]? =some (Jz rows cl k):=by rw [Xg h,List.getElem?_map,List.getElem?_range hk];rfl
theorem zhA {rows:List (List Int)}{cl:List Int}(h:YB rows cl=0):(U1 rows cl).length=(rows.getD 0 []).length:=by rw [Xg h,List.length_map,List.length_range]
end
section
open Go Go.Kn Go.Proofs
theorem zon:ElT Tryz.prog 24 67 3 24:=.of (by kernel_rfl)
theorem VT:QX Tryz.prog 67 0 0:=.of (by kernel_rfl)
theorem zb0:QX Tryz.prog 67 1 1:=.of (by kernel_rfl)
theorem zpV:Fun Tryz.prog 106:=.of Tryz.func106 (by kernel_rfl) (by kernel_rfl)
theorem zsn:Fun Tryz.prog 54:=.of Tryz.func54 (by kernel_rfl) (by kernel_rfl)
theorem znD:Fun Tryz.prog 63:=.of Tryz.func63 (by kernel_rfl) (by kernel_rfl)
theorem XT:MpT Tryz.prog 120 3 124 (.agg #[.nilFunc]):=⟨by kernel_rfl,.of (by kernel_rfl)⟩
theorem zdC:PlT Tryz.prog 124 #[(0,1)] (.agg #[.nilFunc]):=⟨.of (by kernel_rfl),by kernel_rfl,fun w=>by kernel_rfl⟩
theorem zxb (I:Qu)(code:Int)(b:Bool):Zx Tryz.prog 97 [.int .i64 code,.bool b] I (.bool (r1F code b)):=by
 intro g H w hw
 refine qe Tryz.func97 Tryz.ntmps97 hw ?_
 refine zR (zA ?_)
 refine zN (zR ?_)
 refine zM ?_
 refine zM ?_
 refine QG 1 rfl rfl rfl ?_
 refine zK (Qi rfl) ?_
 refine zK (QJ rfl rfl rfl) ?_
 refine QO rfl rfl rfl rfl rfl ?_
 refine zM ?_
 refine QG 5 rfl rfl rfl ?_
 refine zK (Qi rfl) ?_
 refine zK (QJ rfl rfl rfl) ?_
 refine QO rfl rfl rfl rfl rfl ?_
 refine zA (zN (Qs ?_))
 exact zr rfl rfl (by rfl)
theorem zwD (I:Qu)(code:Int)(b:Bool):Zx Tryz.prog 98 [.int .i64 code,.bool b] I (.bool (r2F code b)):=by
 intro g H w hw
 refine qe Tryz.func98 Tryz.ntmps98 hw ?_
 have hIc:=zyv I
 refine zR (zA ?_)
 refine zN (zR ?_)
 refine zM ?_
 refine qc (vs:=[_]) rfl zie (zhS _ _) ?_
 refine zM ?_
 refine zE ?_
 refine zE ?_
 refine Qr WW rfl rfl (fun b_5=>?_)
 refine zh VG ?_
 refine zA ?_
 refine zN (zR ?_)
 refine zM ?_
 refine zC ?_
 refine zM ?_
 refine QG 2 rfl rfl rfl ?_
 refine zK (Qi rfl) ?_
 refine zK (Vd rfl) ?_
 refine QO rfl rfl rfl rfl rfl ?_
 refine zA (zN (Qs ?_))
 exact zp hIc rfl rfl (by rfl)
theorem zwG (I:Qu)(code:Int)(b:Bool):Zx Tryz.prog 99 [.int .i64 code,.bool b] I (.bool (r3F code b)):=by
 intro g H w hw
 refine qe Tryz.func99 Tryz.ntmps99 hw ?_
 refine zR (zA ?_)
 refine zN (zR ?_)
 refine zM ?_
 refine zC ?_
 refine zA (zN (Qs ?_))
 exact zr rfl rfl (by rfl)
def rsV (f:Nat):Value:=.agg #[.func (.func f) #[] #[]]
def rsM:List (Int×Nat):=[(1,97),(2,98),(3,99)]
theorem zjJ (I:Qu):Yc Tryz.prog 52 [] I [] (fun v I' L=>L=[]∧∃ r,v= .map (some r)∧I' r=some (ZN (Value.int .i64) rsV rsM)):=by
 intro g H w hw
 refine qe Tryz.func52 Tryz.ntmps52 hw ?_
 have hIc:=zyv I
 refine zR (zA ?_)
 refine zN (zR ?_)
 refine ZE rfl rfl (fun r_1=>?_)
 refine zV (QR (ps:=[(0,_)]) [_] zdC rfl rfl) ?_
 refine UA (m:=[]) (ek:=Value.int .i64) (ev:=rsV) 97 XT ZD rfl rfl rfl rfl (by repeat (first | exact Upd.here | apply Upd.there | apply QI)) ?_
 refine zV (QR (ps:=[(0,_)]) [_] zdC rfl rfl) ?_
 refine UA (m:=[(1,97)]) (ek:=Value.int .i64) (ev:=rsV) 98 XT ZD rfl rfl rfl rfl (by repeat (first | exact Upd.here | apply Upd.there | apply QI)) ?_
 refine zV (QR (ps:=[(0,_)]) [_] zdC rfl rfl) ?_
 refine UA (m:=[(1,97),(2,98)]) (ek:=Value.int .i64) (ev:=rsV) 99 XT ZD rfl rfl rfl rfl (by repeat (first | exact Upd.here | apply Upd.there | apply QI)) ?_
 refine zM ?_
 refine zA (zN (Qs ?_))
 refine QL .here (fun I9 h9 e9=>?_)
 exact Zt rfl rfl (fun w hw=>⟨_,I9,[],rfl,hIc.trans h9,hw,rfl,r_1,rfl,e9⟩)
theorem zwh {I:Qu}{av:Option Addr}{n c:Nat}{v:List Int}(hQ:Sl I 1 QP av n c v){b:Nat}{e:Em}(hb:I b=some (.cells (Yt e).toArray 67 (0,0)))(h0:0≤e.locus)(hl:e.locus.toNat<n):Zx Tryz.prog 54 [.slice av n c,Za b] I (.bool (v.getD e.locus.toNat 0==e.code)):=by
 intro g H w hw
 refine qe Tryz.func54 Tryz.ntmps54 hw ?_
 refine zR (zA (zN (Ql ?_)))
 refine Va mixed (by kernel_rfl) ?_
 refine zq (Qi rfl) ?_
 refine zq (Qf rfl VT) ?_
 refine zq (Qd rfl Qt (fun hg=>by exact .imm hb rfl)) ?_
 refine zq (zX Qy hQ) ?_
 refine zq (Qd rfl Qt (fun hg=>by exact zyo (k:=e.locus.toNat) hQ (Zj (d:=0) hQ.len hl) rfl)) ?_
 refine zq (Qf rfl zb0) ?_
 refine zq (Qd rfl Qt (fun hg=>by exact .imm hb rfl)) ?_
 refine zq (QJ rfl rfl rfl) ?_
 refine zq (ZM rfl) ?_
 refine Vc ?_
 refine Qa (Qs ?_)
 exact zr rfl rfl (by rfl)
theorem zlw {I:Qu}{bv:Option Addr}{n2 c2:Nat}{rows:List (List Int)}(hV:SlN I bv n2 c2 rows)(hn:n2≤100000){b:Nat}{e:Em}(hb:I b=some (.cells (Yt e).toArray 67 (0,0)))(h0:0≤e.locus)(hl:∀ r∈rows,e.locus.toNat<r.length):Zx Tryz.prog 100 [.slice bv n2 c2,.func (.func 54) #[] [Za b].toArray] I (.int .i64 (Ua (fun r:List Int=>r.getD e.locus.toNat 0==e.code) rows)):=by
 intro g H w hw
 refine qe Tryz.func100 Tryz.ntmps100 hw ?_
 have hlV:=hV.len
 obtain ⟨hs,hV⟩:=hV
 have hH:=hV.1
 refine zR (zA (zN (Ql (zR ?_))))
 refine zM ?_
 refine zQ Zn ?_
 refine zM (zN (Qm ?_))
 refine zU [(0,_),(1,_),(7,_)] (fun T L0 mz E I' loc'=>∃ (k:Nat),mz=n2-k∧E=(8,.int .i64 k)::T∧I=I'∧L0=loc'∧k≤n2∧(rows.take k).any (fun r:List Int=>r.getD e.locus.toNat 0==e.code)=false) ?_ (h:=⟨0,rfl,rfl,rfl,rfl,Nat.zero_le _,rfl⟩)
 rintro mz E I' loc' ⟨k,rfl,rfl,rfl,rfl,hk,hno⟩
 refine zR (zC (zN (Ql ?_)))
 refine zI ?_ ?_<;>intro hc9
 ·
  have hlt_k:k<n2:=by have h:=hc9;simp at h;omega
  obtain ⟨x,v,hx,hv,hQ⟩:=hV.at hlt_k
  refine Qo (Qa (Ql (Qm (zR (zM ?_)))))
  refine zA ?_
  refine zN (zR ?_)
  refine zM ?_
  refine zM ?_
  refine zM ?_
  refine zV (zX Zn hH) ?_
  refine zV (Qd rfl QK (fun hg=>by exact zyo hH hx rfl)) ?_
  refine YQ (cap:=[Za b]) (vs:=[_]) rfl rfl zsn (zwh hQ hb h0 (by rw [←hQ.len];exact hl _ (List.mem_of_getElem? hv))) rfl rfl ?_
  refine zN ?_
  refine zI ?_ ?_<;>intro hc16
  ·
   refine zR (zM ?_)
   refine zA (zN (Qs (Qn (Qc (Qc (Qn (Qc ?_)))))))
   exact zr rfl rfl (by rw [Ji hno hv hc16])
  refine Qo (Qh (Qa (Qg (zB ?_))))
  refine zM (Qb ?_)
  exact zm (h:=⟨n2-(k+1),by omega,k+1,rfl,rfl,rfl,rfl,by omega,YX hv hno hc16⟩)
 have hge_k:n2≤k:=by have h:=hc9;simp at h;omega
 refine QH (Qe (Qe (Qk (Qa (zR (zA (zN ?_)))))))
 refine Qs ?_
 exact zr rfl rfl (by rw [Vw hlV hge_k hno])
theorem zd3 {I:Qu}{bv:Option Addr}{n2 c2:Nat}{rows:List (List Int)}(hV:SlN I bv n2 c2 rows)(hn:n2≤100000){b:Nat}{e:Em}(hb:I b=some (.cells (Yt e).toArray 67 (0,0)))(h0:0≤e.locus)(hl:∀ r∈rows,e.locus.toNat<r.length):Zx Tryz.prog 53 [.slice bv n2 c2,.func (.func 54) #[] [Za b].toArray] I (.bool (ze4 rows e)):=by
 intro g H w hw
 refine qe Tryz.func53 Tryz.ntmps53 hw ?_
 refine zR (zA ?_)
 refine zN (zR ?_)
 refine zM ?_
 refine zM ?_
 refine qc (vs:=[_,_]) rfl zbo (zlw hV hn hb h0 hl) ?_
 refine zC ?_
 refine zA (zN (Qs ?_))
 exact zr rfl rfl (by unfold ze4;rw [←Ku])
theorem zbW {I:Qu}{av:Option Addr}{n c:Nat}{xs:List Int}(hS:Sl I 1 QP av n c xs)(hn:n≤400000):Yc Tryz.prog 55 [.slice av n c] I [] (fun v I' L=>I'=I∧OwnS 3 1 v n (xs.flatMap QP) L):=by
 intro g H w hw
 refine qe Tryz.func55 Tryz.ntmps55 hw ?_
 refine zR (zA (zN (Ql (zR ?_))))
 refine zM ?_
 refine zV (W5 rfl rfl Qy) ?_
 refine zN ?_
 refine zI ?_ ?_<;>intro hc4
 ·
  have hn0:n=0:=Decidable.byContradiction fun h=>by have:=hS.base h;rw [this] at hc4;cases hc4
  have hl:=hS.len
  subst hn0
  have hx0:=List.eq_nil_of_length_eq_zero hl
  subst hx0
  refine zR (zA (zN (Qs (Qc ?_))))
  exact Zt rfl rfl (fun w hw=>⟨_,I,_,rfl,zyv _,hw,rfl,OwnS.nil⟩)
 refine Qo (Qa (zR ?_))
 refine Qq (ps:=[]) (m:=[]) Zf rfl (.nil) rfl (by simp) (by decide) (by decide) rfl rfl (fun b_5=>?_)
 refine zM ?_
 refine QW (v:=_) (ys:=xs.flatMap QP) (L:=[(b_5,_)]) rfl rfl Zf OwnS.new (by repeat (first | exact .cons .here .nil | exact QD | exact Qw | apply QC | apply QA)) (hS.src Qv) (JG _) (by omega) rfl rfl ?_
 intro v1 L1 hO1 _;rw [List.nil_append,Nat.zero_add] at hO1
 refine zA (zN (Qs ?_))
 exact Zt rfl rfl (fun w hw=>⟨_,I,_,rfl,zyv _,hw.subL Zi,rfl,hO1⟩)
theorem zlf {I:Qu}{av:Option Addr}{n c:Nat}{xs:List Em}(hS:Sl I 3 Yt av n c xs)(hn:n≤400000):Yc Tryz.prog 56 [.slice av n c] I [] (fun v I' L=>I'=I∧OwnS 67 3 v n (xs.flatMap Yt) L):=by
 intro g H w hw
 refine qe Tryz.func56 Tryz.ntmps56 hw ?_
 refine zR (zA (zN (Ql (zR ?_))))
 refine zM ?_
 refine zV (W5 rfl rfl K7) ?_
 refine zN ?_
 refine zI ?_ ?_<;>intro hc4
 ·
  have hn0:n=0:=Decidable.byContradiction fun h=>by have:=hS.base h;rw [this] at hc4;cases hc4
  have hl:=hS.len
  subst hn0
  have hx0:=List.eq_nil_of_length_eq_zero hl
  subst hx0
  refine zR (zA (zN (Qs (Qc ?_))))
  exact Zt rfl rfl (fun w hw=>⟨_,I,_,rfl,zyv _,hw,rfl,OwnS.nil⟩)
 refine Qo (Qa (zR ?_))
 refine Qq (ps:=[]) (m:=[]) zon rfl (.nil) rfl (by simp) (by decide) (by decide) rfl rfl (fun b_5=>?_)
 refine zM ?_
 refine QW (v:=_) (ys:=xs.flatMap Yt) (L:=[(b_5,_)]) rfl rfl zon OwnS.new (by repeat (first | exact .cons .here .nil | exact QD | exact Qw | apply QC | apply QA)) (hS.src X9) (zun _) (by omega) rfl rfl ?_
 intro v1 L1 hO1 _;rw [List.nil_append,Nat.zero_add] at hO1
 refine zA (zN (Qs ?_))
 exact Zt rfl rfl (fun w hw=>⟨_,I,_,rfl,zyv _,hw.subL Zi,rfl,hO1⟩)
theorem zkM {I:Qu}{av:Option Addr}{n c:Nat}{xs:List Int}(hS:Sl I 1 QP av n c xs){bv:Option Addr}{n2 c2:Nat}{ys:List Int}(hT:Sl I 1 QP bv n2 c2 ys)(hn:n≤100000):Zx Tryz.prog 106 [.slice av n c,.slice bv n2 c2] I (.bool (decide (xs=ys))):=by
 intro g H w hw
 refine qe Tryz.func106 Tryz.ntmps106 hw ?_
 have hl1:=hS.len
 have hl2:=hT.len
 refine zR (zA (zN (Ql (zR ?_))))
 refine zM ?_
 refine zQ Qy ?_
 refine zM ?_
 refine zQ Qy ?_
 refine zC (zN ?_)
 refine zI ?_ ?_<;>intro hc10
 ·
  have hne:xs≠ys:=fun e=>by have h:=hc10;subst e;simp at h;omega
  refine zR (zA (zN (Qs (Qc ?_))))
  exact zr rfl rfl (by rw [decide_eq_false hne])
 have hnn:n=n2:=by have h:=hc10;simp at h;omega
 refine Qo (Qa (Ql (zR (zM ?_))))
 refine zQ Qy ?_
 refine zM (zN (Qm ?_))
 refine zU [(0,_),(1,_),(12,_)] (fun T L0 mz E I' loc'=>∃ (k:Nat),mz=n-k∧E=(13,.int .i64 k)::T∧I=I'∧L0=loc'∧k≤n∧xs.take k=ys.take k) ?_ (h:=⟨0,rfl,rfl,rfl,rfl,Nat.zero_le _,rfl⟩)
 rintro mz E I' loc' ⟨k,rfl,rfl,rfl,rfl,hk,hall⟩
 refine zR (zC (zN (Ql ?_)))
 refine zI ?_ ?_<;>intro hc14
 ·
  have hlt_k:k<n:=by have h:=hc14;simp at h;omega
  obtain ⟨x,hx⟩:=hS.at hlt_k
  obtain ⟨y,hy⟩:=hT.at (show k<n2 by omega)
  refine Qo (Qa (Ql (Qm (zR (zM ?_)))))
  refine zA (zN (Ql ?_))
  refine Va mixed (by kernel_rfl) ?_
  refine zq (Qi rfl) ?_
  refine zq (Qi rfl) ?_
  refine zq (zX Qy hS) ?_
  refine zq (Qd rfl Qt (fun hg=>by exact zyo hS hx rfl)) ?_
  refine zq (Qi rfl) ?_
  refine zq (Qi rfl) ?_
  refine zq (zX Qy hT) ?_
  refine zq (Qd rfl Qt (fun hg=>by exact zyo hT hy rfl)) ?_
  refine zq (QJ rfl rfl rfl) ?_
  refine Vc ?_
  refine Qa ?_
  refine zI ?_ ?_<;>intro hc24
  ·
   have hne:xs≠ys:=fun e=>by subst e;rw [hx] at hy;cases hy;simp at hc24
   refine zR (zA (zN (Qs (Qn (Qc (Qc (Qn ?_)))))))
   refine Qc ?_
   exact zr rfl rfl (by rw [decide_eq_false hne])
  have hxy:x=y:=by simpa using hc24
  refine Qo (Qh (Qa (Qg (zB ?_))))
  refine zM (Qb ?_)
  exact zm (h:=⟨n-(k+1),by omega,k+1,rfl,rfl,rfl,rfl,by omega,by rw [List.take_add_one,List.take_add_one,hall,hx,hy,hxy]⟩)
 have hge_k:n≤k:=by have h:=hc14;simp at h;omega
 have heq:xs=ys:=by rw [List.take_of_length_le (by omega),List.take_of_length_le (by omega)] at hall;exact hall
 refine QH (Qe (Qe (Qk (Qa (zR (zA (zN ?_)))))))
 refine Qs ?_
 exact zr rfl rfl (by rw [decide_eq_true heq])
theorem zjN {I:Qu}{av:Option Addr}{n c:Nat}{xs:List Int}(hS:Sl I 1 QP av n c xs){bv:Option Addr}{n2 c2:Nat}{ys:List Int}(hT:Sl I 1 QP bv n2 c2 ys)(hn:n≤100000):Zx Tryz.prog 63 [.slice av n c,.slice bv n2 c2] I (.bool (decide (xs=ys))):=by
 intro g H w hw
 refine qe Tryz.func63 Tryz.ntmps63 hw ?_
 refine zR (zA ?_)
 refine zN (zR ?_)
 refine zM ?_
 refine zM ?_
 refine qc (vs:=[_,_]) rfl zpV (zkM hS hT hn) ?_
 refine zA (zN (Qs ?_))
 exact zr rfl rfl (by rfl)
theorem zmi {I:Qu}{av:Option Addr}{n c:Nat}{xs:List (List Int)}(hS:SlN I av n c xs){bv:Option Addr}{n2 c2:Nat}{ys:List (List Int)}(hT:SlN I bv n2 c2 ys)(hn:n≤100000)(hn3:∀ x∈xs,x.length≤100000):Zx Tryz.prog 82 [.slice av n c,.slice bv n2 c2,.func (.func 63) #[] #[]] I (.bool (decide (xs=ys))):=by
 intro g H w hw
 refine qe Tryz.func82 Tryz.ntmps82 hw ?_
 have hl1:=hS.len
 have hl2:=hT.len
 obtain ⟨hs,hS⟩:=hS
 have hH:=hS.1
 obtain ⟨gs,hT⟩:=hT
 have hG:=hT.1
 refine zR (zA (zN (Ql (zR ?_))))
 refine zM ?_
 refine zQ Zn ?_
 refine zM ?_
 refine zQ Zn ?_
 refine zC (zN ?_)
 refine zI ?_ ?_<;>intro hc14
 ·
  have hne:xs≠ys:=fun e=>by have h:=hc14;subst e;simp at h;omega
  refine zR (zA (zN (Qs (Qc ?_))))
  exact zr rfl rfl (by rw [decide_eq_false hne])
 have hnn:n=n2:=by have h:=hc14;simp at h;omega
 refine Qo (Qa (Ql (zR (zM ?_))))
 refine zQ Zn ?_
 refine zM (zN (Qm ?_))
 refine zU [(1,_),(2,_),(15,_),(16,_)] (fun T L0 mz E I' loc'=>∃ (k:Nat),mz=n-k∧E=(17,.int .i64 k)::T∧I=I'∧L0=loc'∧k≤n∧xs.take k=ys.take k) ?_ (h:=⟨0,rfl,rfl,rfl,rfl,Nat.zero_le _,rfl⟩)
 rintro mz E I' loc' ⟨k,rfl,rfl,rfl,rfl,hk,hall⟩
 refine zR (zC (zN (Ql ?_)))
 refine zI ?_ ?_<;>intro hc18
 ·
  have hlt_k:k<n:=by have h:=hc18;simp at h;omega
  obtain ⟨x,u,hx,hu,hP⟩:=hS.at hlt_k
  obtain ⟨y,v,hy,hv,hQ⟩:=hT.at (show k<n2 by omega)
  refine Qo (Qa (Ql (Qm (zR (zM ?_)))))
  refine zV (zX Zn hH) ?_
  refine zV (Qd rfl QK (fun hg=>by exact zyo hH hx rfl)) ?_
  refine zA ?_
  refine zA ?_
  refine zN (zR ?_)
  refine zM ?_
  refine zM ?_
  refine zV (zX Zn hG) ?_
  refine zV (Qd rfl QK (fun hg=>by exact zyo hG hy rfl)) ?_
  refine zA ?_
  refine zN (zR ?_)
  refine zM ?_
  refine zM ?_
  refine zM ?_
  refine qc (vs:=[_,_]) rfl znD (zjN hP hQ (by rw [←hP.len];exact hn3 _ (List.mem_of_getElem? hu))) ?_
  refine zO (zN ?_)
  refine zI ?_ ?_<;>intro hc30
  ·
   have hne:xs≠ys:=fun e=>by subst e;rw [hu] at hv;cases hv;simp at hc30
   refine zR (zA (zN (Qs (Qn (Qc (Qc (Qn ?_)))))))
   refine Qc ?_
   exact zr rfl rfl (by rw [decide_eq_false hne])
  have huv:u=v:=by simpa using hc30
  refine Qo (Qh (Qa (Qg (zB ?_))))
  refine zM (Qb ?_)
  exact zm (h:=⟨n-(k+1),by omega,k+1,rfl,rfl,rfl,rfl,by omega,by rw [List.take_add_one,List.take_add_one,hall,hu,hv,huv]⟩)
 have hge_k:n≤k:=by have h:=hc18;simp at h;omega
 have heq:xs=ys:=by rw [List.take_of_length_le (by omega),List.take_of_length_le (by omega)] at hall;exact hall
 refine QH (Qe (Qe (Qk (Qa (zR (zA (zN ?_)))))))
 refine Qs ?_
 exact zr rfl rfl (by rw [decide_eq_true heq])
end
section
open Go Go.Kn Go.Proofs
theorem zmq {rows:List (List Int)}{cl:List Int}{l:Nat}:0<(Jz rows cl l).length:=by
 have hne:ziD rows cl l≠[]:=fun e=>by
  have h1:=ziK (rows:=rows) (cl:=cl) (l:=l)
  have h2:=zg8 (rows:=rows) (l:=l)
  rw [e] at h1;simp at h1;omega
 obtain ⟨h1,_⟩:=zaU hne
 rw [zaY] at h1
 obtain ⟨x,hx,e⟩:=List.mem_map.1 h1
 refine List.length_pos_of_mem (a:=x) ?_
 unfold Jz
 rw [List.mem_filter]
 exact ⟨hx,by rw [e,zaY];simp⟩
theorem zmC {rows:List (List Int)}{cl:List Int}{k:Nat}(h:(Jz rows cl k).any (fun y=>(rows.getD 0 []).getD k 0==y)=true):(rows.getD 0 []).getD k 0=W0 rows cl k:=by unfold W0;rw [if_pos h]
theorem zoZ {rows:List (List Int)}{cl:List Int}{k:Nat}(h:(Jz rows cl k).any (fun y=>(rows.getD 0 []).getD k 0==y)=false):(Jz rows cl k).getD 0 0=W0 rows cl k:=by unfold W0;rw [if_neg (by rw [h];decide)]
def zj5:Em:=⟨0,0,0⟩
theorem zbS {rows:List (List Int)}{cl:List Int}{es lf:List Em}{k:Nat}(hl:lf=lfK es k)(h:(decide ((lf.length:Int)>0)&&((lf.getD 0 zj5).locus==(k:Int)))=true):(lf.getD 0 zj5).code=Wf rows cl es k∧lf.drop 1=lfK es (k+1)∧0<lf.length:=by
 cases lf with
 | nil=>simp at h
 | cons e r=>
  have he:e.locus=(k:Int):=by simpa using h
  exact ⟨(ztF hl.symm he).symm,(ztc hl.symm he).symm,by simp⟩
theorem zjQ {rows:List (List Int)}{cl:List Int}{es lf:List Em}{k:Nat}(hl:lf=lfK es k)(h:(decide ((lf.length:Int)>0)&&((lf.getD 0 zj5).locus==(k:Int)))=false):W0 rows cl k=Wf rows cl es k∧lf=lfK es (k+1):=by
 cases lf with
 | nil=>exact ⟨(ztL hl.symm).symm,(zvH hl.symm).symm⟩
 | cons e r=>
  have he:¬e.locus=(k:Int):=by
   intro he
   have h3:(e.locus==(k:Int))=false:=by simpa using h
   rw [he] at h3;simp at h3
  exact ⟨(zxE hl.symm he).symm,(zwl hl.symm he).symm⟩
theorem XE {rows:List (List Int)}{cl:List Int}{es:List Em}:(Vx rows cl es).length=(rows.getD 0 []).length:=by unfold Vx;simp
end
end Go.Proofs.YtodakphagkommaaGreatDoor
section
namespace Go
def Exit.straight (Q:Exit→Act→World→Prop):Exit→Act→World→Prop
 | .goto _,_,_=>False
 | .normal,a,w=>Q .normal a w
 | .exit i,a,w=>Q (.exit i) a w
 | .ret,a,w=>Q .ret a w
 | .panic c,a,w=>Q (.panic c) a w
 | .outgrown,a,w=>Q .outgrown a w
section
variable {P:Program} {F:Fence} {n:Nat} {b:Frame} {a:Act} {k:List Item} {cs:List Frame} {w:World} {Q:Exit→Act→World→Prop}
theorem Vr {c:Code}:step P (lone (b.atR a (.code (.scope c)::k)) cs w)= .next (lone (b.atR a (.code c:: .inScope c::k)) cs w):=
 step_lone_go (by simp [stepG,stepG.exec,Frame.atR])
theorem zbl {c:Code}:step P (lone (b.atR a (.inScope c::k)) cs w)= .next (lone (b.atR a k) cs w):=
 step_lone_go (by simp [stepG,stepG.exec,Frame.atR])
theorem Ul {c:Code}(h:c.wpIn F n P (Exit.straight Q) a w):(Code.scope c).wpIn F n P Q a w:=by
 intro b k cs hro hb hr
 have h0:(lone (b.atR a (.code (.scope c)::k)) cs w).fenced P F:=fenced_calm hb hr rfl
 obtain ⟨e,a₁,w₁,hq,harr⟩:=h b (.inScope c::k) cs hro hb hr
 cases e with
 | normal=>exact ⟨.normal,a₁,w₁,hq,.head h0 Vr (StepsIn.trans harr (.one (fenced_calm hb hr rfl) zbl))⟩
 | exit id=>
  have hx:exitTo id (.inScope c::k)=exitTo id k:=by simp [exitTo]
  exact ⟨_,a₁,w₁,hq,fun k' hk=>.head h0 Vr (harr.1 k' (by rw [hx];exact hk)),
   fun hr' hk=>let ⟨k₁,h1,h2⟩:=harr.2 hr' (by rw [hx];exact hk);⟨k₁,h1,.head h0 Vr h2⟩⟩
 | goto l=>exact hq.elim
 | ret=>exact ⟨_,a₁,w₁,hq,.of_steps (.one h0 Vr) harr⟩
 | panic ch=>exact ⟨_,a₁,w₁,hq,.of_steps (.one h0 Vr) harr⟩
 | outgrown=>exact ⟨_,a₁,w₁,hq,.of_steps (.one h0 Vr) harr⟩
end
end Go
namespace Go.Kn
open Go
section
variable {C:Cx} {Q:Exit→Act→World→Prop} {E:Env} {I:Qu} {loc:Loc}
theorem zpX {c:Code}(h:X C (Exit.straight Q) c E I loc):X C Q (.scope c) E I loc:=fun a w ha hw=>Ul (h a w ha hw)
theorem zqi {l:Nat}(h:At C Q .normal E I loc):X C Q (.label l) E I loc:=fun a w ha hw=>wpIn_label (h a w ha hw)
theorem V9 (h:At C Q .ret E I loc):At C (Exit.straight Q) .ret E I loc:=h
theorem zfA {e:Exit}{loc':Loc}(h:loc=loc')(hx:At C Q e E I loc'):At C Q e E I loc:=h ▸ hx
variable {S:GS} {dst:Option Nat} {ty:TypeId} {pos:String} {af:Array Edge} {gd:Option (Nat×Bool)} {x y:Operand}
theorem UL {P:Program}{w:World}{t e d:Nat}{q:Option Addr}(hT:P.underlying t=some (.pointer e)):(Op.equalIn (d+1) t (.pointer q) (.pointer none)).run P w= .ok q.isNone w:=by
 unfold Op.equalIn
 rw [Sem.run_bind,run_underlying hT]
 cases q<;>rfl
theorem UB {t t' e:Nat}{q:Option Addr}(hx:QB S E x=some (.pointer q))(hy:QB S E y=some (.pointer none))(hT:C.P.underlying t=some (.pointer e)):QS C S E I loc ⟨dst,.binOp .eql t x y t',ty,pos,af,gd⟩ (.bool q.isNone):=
 .of (by intro c e;cases e) fun a w ha hg hc _=>by
  have e1:∀ op x y t,(eqGuard op t x y (.pointer q) (.pointer none)).run C.P w= .ok () w:=by intros;unfold eqGuard;rename_i op _ _ _;cases op<;>rfl
  have e2:(Op.equal t (.pointer q) (.pointer none)).run C.P w= .ok q.isNone w:=UL (d:=9999) hT
  simp only [execOp,Qj ha hg hc hx,Qj ha hg hc hy,Sem.run_bind,e1,Result.andThen,binOp,e2,Sem.run_pure]
end
end Go.Kn
end
namespace Go.Proofs.YtodakphagkommaaGreatDoor
section
open Go Go.Kn Go.Proofs
theorem ZW:AgT Tryz.prog 26 4:=.of (by kernel_rfl)
theorem zne:AgT Tryz.prog 67 3:=.of (by kernel_rfl)
theorem zhY:QX Tryz.prog 124 0 0:=.of (by kernel_rfl)
theorem VQ:QX Tryz.prog 26 3 3:=.of (by kernel_rfl)
theorem zb7:QX Tryz.prog 67 2 2:=.of (by kernel_rfl)
theorem zuc:Fun Tryz.prog 51:=.of Tryz.func51 (by kernel_rfl) (by kernel_rfl)
theorem zuv:Fun Tryz.prog 52:=.of Tryz.func52 (by kernel_rfl) (by kernel_rfl)
theorem zhj:Fun Tryz.prog 55:=.of Tryz.func55 (by kernel_rfl) (by kernel_rfl)
theorem zva:Fun Tryz.prog 56:=.of Tryz.func56 (by kernel_rfl) (by kernel_rfl)
theorem zt9:Fun Tryz.prog 97:=.of Tryz.func97 (by kernel_rfl) (by kernel_rfl)
theorem zsJ:Fun Tryz.prog 98:=.of Tryz.func98 (by kernel_rfl) (by kernel_rfl)
theorem zuT:Fun Tryz.prog 99:=.of Tryz.func99 (by kernel_rfl) (by kernel_rfl)
theorem znl:PlT Tryz.prog 26 #[(0,1),(1,1),(2,1),(3,1)] (.agg #[(.int .i64 0),(.slice none 0 0),(.slice none 0 0),(.slice none 0 0)]):=⟨.of (by kernel_rfl),by kernel_rfl,fun w=>by kernel_rfl⟩
theorem zrH:ScT Tryz.prog 122:=.of (by kernel_rfl)
theorem zjv:SzT Tryz.prog 124 1:=.of (by kernel_rfl)
theorem KK:SzT Tryz.prog 26 4:=.of (by kernel_rfl)
theorem zvJ:SzT Tryz.prog 67 3:=.of (by kernel_rfl)
theorem znc:Yn Tryz.prog 124 (.agg #[.nilFunc]):=.of (by kernel_rfl)
theorem zko:Yn Tryz.prog 26 (.agg #[(.int .i64 0),(.slice none 0 0),(.slice none 0 0),(.slice none 0 0)]):=.of (by kernel_rfl)
theorem zwv:Yn Tryz.prog 67 (.agg #[(.int .i64 0),(.int .i64 0),(.int .i64 0)]):=.of (by kernel_rfl)
def zvW (I:Qu)(r:Nat):Prop:=I r=some (ZN (Value.int .i64) rsV rsM)
theorem zvW.mono {I I':Qu}{r:Nat}(h:zvW I r)(hI:HLe I I'):zvW I' r:=hI _ _ h
theorem zlT (r:Int):(r≠1∧r≠2∧r≠3∧ZC rsM r=none)∨∃ f,ZC rsM r=some f∧Fun Tryz.prog f∧∀ (I:Qu) (code:Int) (b:Bool),Zx Tryz.prog f [.int .i64 code,.bool b] I (.bool (rsF r code b)):=by
 by_cases h1:r=1
 ·
  subst h1;exact .inr ⟨_,rfl,zt9,zxb⟩
 by_cases h2:r=2
 ·
  subst h2;exact .inr ⟨_,rfl,zsJ,zwD⟩
 by_cases h3:r=3
 ·
  subst h3;exact .inr ⟨_,rfl,zuT,zwG⟩
 exact .inl ⟨h1,h2,h3,by unfold rsM;simp [ZC,Ne.symm h1,Ne.symm h2,Ne.symm h3]⟩
set_option maxHeartbeats 40000000 in
theorem zns {I:Qu} {av:Option Addr} {n c:Nat} {xs:List Int} (hS:Sl I 1 QP av n c xs) {bv:Option Addr} {n2 c2:Nat} {rows:List (List Int)} (hVn:SlN I bv n2 c2 rows) (hn2:n2≤100000) {dv:Option Addr} {n3 c3:Nat} {es:List Em} (hEs:Sl I 3 Yt dv n3 c3 es) (hn3:n3≤100000) (hnx:n≤100000) (hDb:VF I) (no:Int):Yc Tryz.prog 25 [.slice bv n2 c2,.int .i64 no,.slice av n c,.slice dv n3 c3] I [] (zxA rows no xs es):=by
 intro g H w hw
 refine qe Tryz.func25 Tryz.ntmps25 hw ?_
 have hIc:=zyv I
 have hlV:=hVn.len
 subst hlV
 have hEl:=hEs.len
 subst hEl
 have hVn9:=hVn
 obtain ⟨hs,hV⟩:=hVn9
 have hH:=hV.1
 refine zR ?_
 refine Qr zko rfl rfl (fun b_8=>?_)
 refine zA ?_
 refine zN (zR ?_)
 refine zM ?_
 refine zM ?_
 refine Qx (cap:=[]) (vs:=[_,_]) rfl rfl zuc .nil (zqz hS hVn hn2 hDb) rfl rfl ?_
 rintro vv1 I1 L1 hI1 ⟨rfl,av4,c4,rfl,hRt⟩
 have hS:=hS.mono hI1;have hVn:=hVn.mono hI1;have hV:=hV.mono hI1;have hH:=hH.mono hI1;have hEs:=hEs.mono hI1;have hIc:=hIc.trans hI1
 refine zM ?_
 refine zE ?_
 refine zE ?_
 refine zA ?_
 refine zA (zN (Ql (zR ?_)))
 refine zM ?_
 refine zC (zN ?_)
 refine zI ?_ ?_<;>intro hc28
 ·
  have hcE:YB rows xs≠0:=by simpa using hc28
  refine zR ?_
  refine zV (Qp rfl ZW (fun hg=>by exact Cells.g0) rfl) ?_
  refine zM ?_
  refine zh KK ?_
  refine zA (zN (Qs (Qc ?_)))
  first
  | exact Zv rfl rfl rfl ZW (vs:=Z3 0 none 0 0 none 0 0 none 0 0) (by repeat (first | exact zyt | apply zys)) rfl (fun w hw=>⟨_,_,[],rfl,hIc,hw.drop,rfl,_,by rw [zho hcE]<;>rfl,.inr ⟨by rw [zho hcE];exact hcE,_,_,_,_,_,_,_,_,_,rfl,.nil,.nil,.nil⟩⟩)
 have hcE:YB rows xs=0:=by simpa using hc28
 have hr0:VI rows=0:=by cases Decidable.em (VI rows=0) with
  | inl h=>exact h
  | inr h=>exact absurd ((zfW h).1.symm.trans hcE) h
 obtain ⟨hr1,hr6,hr64,hrr⟩:=Ww hr0
 obtain ⟨x0,v0,hx0,hv0,hQ0⟩:=hV.at (k:=0) (by omega)
 have hg0:rows.getD 0 []=v0:=Q1 hv0
 have hQ0l:=hQ0.len
 have hg1:(rows.getD 0 []).length=v0.length:=by rw [hg0]
 rw [zhA hcE] at hRt ⊢
 refine Qo (Qa (Ql (zR (zM ?_))))
 refine zC ?_
 refine zM ?_
 refine Q0 2 rfl rfl rfl ?_
 refine zJ (Qi rfl) ?_
 refine zJ (QJ rfl rfl rfl) ?_
 refine ZA rfl rfl rfl rfl rfl ?_
 refine zN ?_
 refine zI ?_ ?_<;>intro hc36
 ·
  refine zR ?_
  refine zV (Qp rfl ZW (fun hg=>by exact Cells.g0) rfl) ?_
  refine zh KK ?_
  refine zA (zN (Qs (Qc ?_)))
  first
  | exact Zv rfl rfl rfl ZW (vs:=Z3 0 none 0 0 none 0 0 none 0 0) (by repeat (first | exact zyt | apply zys)) rfl (fun w hw=>⟨_,_,[],rfl,hIc,hw.drop,rfl,_,by rw [znr hcE hc36]<;>rfl,.inr ⟨by rw [znr hcE hc36];decide,_,_,_,_,_,_,_,_,_,rfl,.nil,.nil,.nil⟩⟩)
 refine Qo (Qa (zR ?_))
 refine Qx (cap:=[]) (vs:=[]) rfl rfl zuv .nil (zjJ _) rfl rfl ?_
 rintro vv2 I2 L2 hI2 ⟨rfl,rm,rfl,hRm⟩
 have hS:=hS.mono hI2;have hVn:=hVn.mono hI2;have hH:=hH.mono hI2;have hEs:=hEs.mono hI2;have hRt:=hRt.mono hI2;have hQ0:=hQ0.mono hI2;have hIc:=hIc.trans hI2
 have hRm:zvW I2 rm:=hRm
 refine zA ?_
 refine zA (zN (Ql (Ql ?_)))
 refine JA (loc':=(b_8,.cells (Z3 0 none 0 0 none 0 0 none 0 0).toArray 26 (0,0))::[]) rfl ?_
 refine Qg (zM ?_)
 refine zQ K7 ?_
 refine zM (zN (Qm ?_))
 refine zU [(0,_),(1,_),(2,_),(3,_),(8,_),(10,_),(11,_),(39,_),(40,_)] (fun T L0 mz E I' loc'=>∃ (k:Nat) (l:Int),mz=es.length-k∧E=(12,.int .i64 l)::(41,.int .i64 k)::T∧HLe I2 I'∧(b_8,.cells (Z3 0 none 0 0 none 0 0 none 0 0).toArray 26 (0,0))::[]=loc'∧k≤es.length∧ -1≤l∧WX rows (rows.getD 0 []).length (-1) es=WX rows (rows.getD 0 []).length l (es.drop k)) ?_ (h:=⟨0,(-1),rfl,rfl,zyv _,rfl,Nat.zero_le _,Int.le_refl _,rfl⟩)
 rintro mz E J3 loc' ⟨k,l,rfl,rfl,hJ,rfl,hk,hlm,hgo⟩
 have hS:=hS.mono hJ;have hVn:=hVn.mono hJ;have hH:=hH.mono hJ;have hEs:=hEs.mono hJ;have hRt:=hRt.mono hJ;have hQ0:=hQ0.mono hJ;have hRm:=hRm.mono hJ;have hIc:=hIc.trans hJ
 have hB0:=hJ
 refine zR (zC (zN (Ql ?_)))
 refine zI ?_ ?_<;>intro hc42
 ·
  have hlt_k:k<es.length:=by have h:=hc42;simp at h;omega
  obtain ⟨e,he⟩:=hEs.at hlt_k
  refine Qo (Qa (Ql (Qm (zR ?_))))
  refine zV (zX K7 hEs) ?_
  refine zV (Qp rfl zne (fun hg=>by exact zyw hEs he) rfl) ?_
  refine Qr zwv rfl rfl (fun b_14=>?_)
  refine zh zvJ ?_
  refine zN (Ql ?_)
  obtain ⟨h1,h2,h3,hget⟩ | ⟨f,hget,hFf,hCf⟩:=zlT e.reason
  ·
   refine Qg (zM ?_)
   refine zF zb7 ?_
   refine zL Qt ?_
   refine zV (zcy hget (m:=rsM) (ek:=Value.int .i64) (ev:=rsV) (a:=e.reason) XT ZD rfl rfl (fun _=>.inl hRm)) ?_
   refine zM ?_
   refine zE ?_
   refine zE ?_
   refine Qr znc rfl rfl (fun b_15=>?_)
   refine zh zjv ?_
   refine zA (zN (Ql (Ql ?_)))
   refine Ze (b:=b_14) (by repeat (first | exact Q8.here | apply Q8.there)) (fun I4 hI4 hE14=>?_)
   have hIc:=hIc.trans hI4
   have hD:=zyv I4
   refine KJ mixed ?_
   refine zT 0 rfl (Qi rfl) hD ?_
   refine zT 1 rfl (Vd rfl) hD ?_
   refine zT 2 rfl (Qi rfl) hD ?_
   refine zW 3 54 hD ?_
   refine zW 4 54 hD ?_
   refine zW 5 54 hD ?_
   refine zW 6 54 hD ?_
   refine zT 7 rfl (YR rfl rfl rfl) hD ?_
   refine zT 8 rfl (Qi rfl) hD ?_
   refine zW 9 60 hD ?_
   refine zW 10 60 hD ?_
   refine zW 11 60 hD ?_
   refine zW 12 60 hD ?_
   refine zW 13 60 hD ?_
   refine zT 14 rfl (YR rfl rfl rfl) hD ?_
   refine zT 15 rfl (Qi rfl) hD ?_
   refine zW 16 67 hD ?_
   refine zW 17 67 hD ?_
   refine zW 18 67 hD ?_
   refine zW 19 67 hD ?_
   refine zW 20 67 hD ?_
   refine zW 21 67 hD ?_
   refine zW 22 67 hD ?_
   refine zW 23 67 hD ?_
   refine zW 24 67 hD ?_
   refine zT 25 rfl (YR rfl rfl rfl) hD ?_
   refine QF (by kernel_rfl) ?_
   refine QQ ?_
   refine Qa ?_
   refine zI ?_ ?_<;>intro hc77
   ·
    have hbe:=zvF (rows:=rows) (m:=(rows.getD 0 []).length) (l:=l) h1 h2 h3
    refine zR ?_
    refine zV (Qp rfl ZW (fun hg=>by exact Cells.g1) rfl) ?_
    refine zh KK ?_
    refine zA (zN (Qs (Qc (Qn (Qc (Qc (Qn ?_)))))))
    refine Qc ?_
    first
    | exact Zv rfl rfl rfl ZW (vs:=Z3 0 none 0 0 none 0 0 none 0 0) (by repeat (first | exact zyt | apply zys)) rfl (fun w hw=>⟨_,_,[],rfl,hIc,hw.drop,rfl,_,by rw [WH hcE hc36 (hgo.trans (VE he hbe))]<;>rfl,.inr ⟨by rw [WH hcE hc36 (hgo.trans (VE he hbe))];decide,_,_,_,_,_,_,_,_,_,rfl,.nil,.nil,.nil⟩⟩)
   cases hc77
  refine Qg (zM ?_)
  refine zF zb7 ?_
  refine zL Qt ?_
  refine zV (zcq hget (m:=rsM) (ek:=Value.int .i64) (ev:=rsV) (a:=e.reason) XT ZD rfl rfl (fun _=>.inl hRm)) ?_
  refine zM ?_
  refine zE ?_
  refine zE ?_
  refine Qr znc rfl rfl (fun b_15=>?_)
  refine zh zjv ?_
  refine zA (zN (Ql (Ql ?_)))
  obtain q1 | ⟨q1,q2⟩ | ⟨q1,q2⟩:=zkJ rows ((rows.getD 0 []).length) l e
  ·
   refine Ze (b:=b_15) (by repeat (first | exact Q8.here | apply Q8.there)) (fun I5 hI5 hb5=>?_)
   have hIc:=hIc.trans hI5
   have hC15:QV I5 [] b_15 0 (.func (.func f) #[] #[]):=.imm hb5 rfl
   refine Ze (b:=b_14) (by repeat (first | exact Q8.here | apply Q8.there)) (fun I6 hI6 hE14=>?_)
   have hIc:=hIc.trans hI6
   have hD:=zyv I6
   refine KJ mixed ?_
   refine zT 0 rfl (Qi rfl) hD ?_
   refine zT 1 rfl (Vd rfl) hD ?_
   refine zT 2 rfl (Qi rfl) hD ?_
   refine zw 3 54 rfl (Qf rfl VT) hD ?_
   refine zw 4 54 rfl (Qd rfl Qt (fun hg=>by exact .imm hE14 rfl)) hD ?_
   refine zw 5 54 rfl (Qi rfl) hD ?_
   refine zw 6 54 rfl (QJ rfl rfl rfl) hD ?_
   rw [q1]
   refine zT 7 rfl (ZL rfl rfl rfl) hD ?_
   refine zT 8 rfl (Qi rfl) hD ?_
   refine zW 9 60 hD ?_
   refine zW 10 60 hD ?_
   refine zW 11 60 hD ?_
   refine zW 12 60 hD ?_
   refine zW 13 60 hD ?_
   refine zT 14 rfl (YR rfl rfl rfl) hD ?_
   refine zT 15 rfl (Qi rfl) hD ?_
   refine zW 16 67 hD ?_
   refine zW 17 67 hD ?_
   refine zW 18 67 hD ?_
   refine zW 19 67 hD ?_
   refine zW 20 67 hD ?_
   refine zW 21 67 hD ?_
   refine zW 22 67 hD ?_
   refine zW 23 67 hD ?_
   refine zW 24 67 hD ?_
   refine zT 25 rfl (YR rfl rfl rfl) hD ?_
   refine QF (by kernel_rfl) ?_
   refine QQ ?_
   refine Qa ?_
   refine zI ?_ ?_<;>intro hc77
   ·
    have hbe:=zuf (rows:=rows) (m:=(rows.getD 0 []).length) q1
    refine zR ?_
    refine zV (Qp rfl ZW (fun hg=>by exact Cells.g0) rfl) ?_
    refine zh KK ?_
    refine zA (zN (Qs (Qc (Qn (Qc (Qc (Qn ?_)))))))
    refine Qc ?_
    first
    | exact Zv rfl rfl rfl ZW (vs:=Z3 0 none 0 0 none 0 0 none 0 0) (by repeat (first | exact zyt | apply zys)) rfl (fun w hw=>⟨_,_,[],rfl,hIc,hw.drop,rfl,_,by rw [WH hcE hc36 (hgo.trans (VE he hbe))]<;>rfl,.inr ⟨by rw [WH hcE hc36 (hgo.trans (VE he hbe))];decide,_,_,_,_,_,_,_,_,_,rfl,.nil,.nil,.nil⟩⟩)
   cases hc77
  ·
   refine Ze (b:=b_15) (by repeat (first | exact Q8.here | apply Q8.there)) (fun I7 hI7 hb7=>?_)
   have hIc:=hIc.trans hI7
   have hC15:QV I7 [] b_15 0 (.func (.func f) #[] #[]):=.imm hb7 rfl
   refine Ze (b:=b_14) (by repeat (first | exact Q8.here | apply Q8.there)) (fun I8 hI8 hE14=>?_)
   have hIc:=hIc.trans hI8
   have hD:=zyv I8
   refine KJ mixed ?_
   refine zT 0 rfl (Qi rfl) hD ?_
   refine zT 1 rfl (Vd rfl) hD ?_
   refine zT 2 rfl (Qi rfl) hD ?_
   refine zw 3 54 rfl (Qf rfl VT) hD ?_
   refine zw 4 54 rfl (Qd rfl Qt (fun hg=>by exact .imm hE14 rfl)) hD ?_
   refine zw 5 54 rfl (Qi rfl) hD ?_
   refine zw 6 54 rfl (QJ rfl rfl rfl) hD ?_
   rw [q1]
   refine zT 7 rfl (ZL rfl rfl rfl) hD ?_
   refine zT 8 rfl (Qi rfl) hD ?_
   refine zw 9 60 rfl (Qf rfl VT) hD ?_
   refine zw 10 60 rfl (Qd rfl Qt (fun hg=>by exact .imm hE14 rfl)) hD ?_
   refine zw 11 60 rfl (Qi rfl) hD ?_
   refine zw 12 60 rfl (ZH rfl Zn) hD ?_
   refine zw 13 60 rfl (QJ rfl rfl rfl) hD ?_
   rw [q2]
   refine zT 14 rfl (ZL rfl rfl rfl) hD ?_
   refine zT 15 rfl (Qi rfl) hD ?_
   refine zW 16 67 hD ?_
   refine zW 17 67 hD ?_
   refine zW 18 67 hD ?_
   refine zW 19 67 hD ?_
   refine zW 20 67 hD ?_
   refine zW 21 67 hD ?_
   refine zW 22 67 hD ?_
   refine zW 23 67 hD ?_
   refine zW 24 67 hD ?_
   refine zT 25 rfl (YR rfl rfl rfl) hD ?_
   refine QF (by kernel_rfl) ?_
   refine QQ ?_
   refine Qa ?_
   refine zI ?_ ?_<;>intro hc77
   ·
    have hbe:=zuM (rows:=rows) (l:=l) q2
    refine zR ?_
    refine zV (Qp rfl ZW (fun hg=>by exact Cells.g0) rfl) ?_
    refine zh KK ?_
    refine zA (zN (Qs (Qc (Qn (Qc (Qc (Qn ?_)))))))
    refine Qc ?_
    first
    | exact Zv rfl rfl rfl ZW (vs:=Z3 0 none 0 0 none 0 0 none 0 0) (by repeat (first | exact zyt | apply zys)) rfl (fun w hw=>⟨_,_,[],rfl,hIc,hw.drop,rfl,_,by rw [WH hcE hc36 (hgo.trans (VE he hbe))]<;>rfl,.inr ⟨by rw [WH hcE hc36 (hgo.trans (VE he hbe))];decide,_,_,_,_,_,_,_,_,_,rfl,.nil,.nil,.nil⟩⟩)
   cases hc77
  have h0e:0≤e.locus:=by have h:=of_decide_eq_false q1;omega
  have hle:e.locus.toNat<(rows.getD 0 []).length:=by have h:=of_decide_eq_false q2;omega
  have hle2:∀ r∈rows,e.locus.toNat<r.length:=fun r hr=>by rw [(hrr r hr).1];exact hle
  refine Ze (b:=b_15) (by repeat (first | exact Q8.here | apply Q8.there)) (fun I9 hI9 hb9=>?_)
  have hVn:=hVn.mono hI9;have hIc:=hIc.trans hI9;have hB0:=hB0.trans hI9
  have hC15:QV I9 [] b_15 0 (.func (.func f) #[] #[]):=.imm hb9 rfl
  refine Ze (b:=b_14) (by repeat (first | exact Q8.here | apply Q8.there)) (fun I10 hI10 hE14=>?_)
  have hVn:=hVn.mono hI10;have hC15:=hC15.mono hI10;have hIc:=hIc.trans hI10;have hB0:=hB0.trans hI10
  have hD:=zyv I10
  refine KJ mixed ?_
  refine zT 0 rfl (Qi rfl) hD ?_
  refine zT 1 rfl (Vd rfl) hD ?_
  refine zT 2 rfl (Qi rfl) hD ?_
  refine zw 3 54 rfl (Qf rfl VT) hD ?_
  refine zw 4 54 rfl (Qd rfl Qt (fun hg=>by exact .imm hE14 rfl)) hD ?_
  refine zw 5 54 rfl (Qi rfl) hD ?_
  refine zw 6 54 rfl (QJ rfl rfl rfl) hD ?_
  rw [q1]
  refine zT 7 rfl (ZL rfl rfl rfl) hD ?_
  refine zT 8 rfl (Qi rfl) hD ?_
  refine zw 9 60 rfl (Qf rfl VT) hD ?_
  refine zw 10 60 rfl (Qd rfl Qt (fun hg=>by exact .imm hE14 rfl)) hD ?_
  refine zw 11 60 rfl (Qi rfl) hD ?_
  refine zw 12 60 rfl (ZH rfl Zn) hD ?_
  refine zw 13 60 rfl (QJ rfl rfl rfl) hD ?_
  rw [q2]
  refine zT 14 rfl (ZL rfl rfl rfl) hD ?_
  refine zT 15 rfl (Qi rfl) hD ?_
  refine zw 16 67 rfl (Qf rfl zhY) hD ?_
  refine zw 17 67 rfl (Qd rfl zrH (fun hg=>by exact hC15.any)) hD ?_
  refine zw 18 67 rfl (Qf rfl zb0) hD ?_
  refine zw 19 67 rfl (Qd rfl Qt (fun hg=>by exact .imm hE14 rfl)) hD ?_
  refine zw 20 67 rfl (Qi rfl) hD ?_
  refine zw 21 67 rfl (Zb (us:=[]) (vs:=[_]) rfl rfl) hD ?_
  refine qd 22 rfl ?_
  refine QM (dj:=67) rfl rfl rfl ?_
  refine qc (vs:=[_,_]) rfl znH (zd3 hVn hn2 hE14 h0e hle2) ?_
  refine Qb ?_
  refine zD hD ?_
  refine qd 23 rfl ?_
  refine QM (dj:=67) rfl rfl rfl ?_
  refine YQ (cap:=[]) (vs:=[_,_]) rfl rfl hFf (hCf _ _ _) rfl rfl ?_
  refine Qb ?_
  refine zD hD ?_
  refine zw 24 67 rfl (Vd rfl) hD ?_
  refine zT 25 rfl (ZL rfl rfl rfl) hD ?_
  refine QF (by kernel_rfl) ?_
  refine QQ ?_
  refine Qa ?_
  refine zI ?_ ?_<;>intro hc77
  ·
   have hbe:=zoc q1 q2 hc77
   refine zR ?_
   refine zV (Qp rfl ZW (fun hg=>by exact Cells.g0) rfl) ?_
   refine zh KK ?_
   refine zA (zN (Qs (Qc (Qn (Qc (Qc (Qn ?_)))))))
   refine Qc ?_
   first
   | exact Zv rfl rfl rfl ZW (vs:=Z3 0 none 0 0 none 0 0 none 0 0) (by repeat (first | exact zyt | apply zys)) rfl (fun w hw=>⟨_,_,[],rfl,hIc,hw.drop,rfl,_,by rw [WH hcE hc36 (hgo.trans (VE he hbe))]<;>rfl,.inr ⟨by rw [WH hcE hc36 (hgo.trans (VE he hbe))];decide,_,_,_,_,_,_,_,_,_,rfl,.nil,.nil,.nil⟩⟩)
  have hbe:=zoc q1 q2 hc77
  refine Qo (Qa (Qg ?_))
  refine zF VT ?_
  refine zV (Qd rfl Qt (fun hg=>by exact .imm hE14 rfl)) ?_
  refine zA (Qb (Qh (Qa (Qg ?_))))
  refine zB ?_
  refine zM (Qb ?_)
  exact zm (h:=⟨es.length-(k+1),by omega,k+1,_,rfl,rfl,hB0,rfl,by omega,by omega,by rw [hgo,zf8 he hbe]⟩)
 have hge_k:es.length≤k:=by have h:=hc42;simp at h;omega
 rw [zjC hge_k] at hgo
 refine QH (Qe (Qe (Qk (Qa (zR (zM ?_))))))
 refine zM ?_
 refine Qx (cap:=[]) (vs:=[_]) rfl rfl zhj .nil (zbW hS (by omega)) rfl rfl ?_
 rintro vv11 I11 L11 hI11 ⟨rfl,hO1⟩
 have hH:=hH.mono hI11;have hEs:=hEs.mono hI11;have hRt:=hRt.mono hI11;have hQ0:=hQ0.mono hI11;have hIc:=hIc.trans hI11
 obtain ⟨va1,vc1,rfl⟩:=zdh hO1
 refine zM ?_
 refine Qx (cap:=[]) (vs:=[_]) rfl rfl zva .nil (zlf hEs (by omega)) rfl rfl ?_
 rintro vv12 I12 L12 hI12 ⟨rfl,hO2⟩
 have hH:=hH.mono hI12;have hEs:=hEs.mono hI12;have hRt:=hRt.mono hI12;have hQ0:=hQ0.mono hI12;have hIc:=hIc.trans hI12
 obtain ⟨va2,vc2,rfl⟩:=zdh hO2
 refine zV (QR (ps:=[(0,_),(1,_),(2,_)]) [_,_,_,_] znl rfl rfl) ?_
 refine YO rfl rfl KK rfl rfl rfl rfl (by (repeat (first | exact Upd.here | apply Upd.there | apply QI))) ?_
 refine zN (Ql ?_)
 refine Y4 hO2 X9 (by decide) (by repeat (first | exact .cons .here .nil | exact QD | exact Qw | apply QC | apply QA)) (fun I13 hI13 af13 cf13 ef13 hEm2=>?_)
 cases ef13
 have hH:=hH.mono hI13;have hEs:=hEs.mono hI13;have hRt:=hRt.mono hI13;have hQ0:=hQ0.mono hI13;have hIc:=hIc.trans hI13
 refine Y4 hO1 Qv (by decide) (by repeat (first | exact .cons .here .nil | exact QD | exact Qw | apply QC | apply QA)) (fun I14 hI14 af14 cf14 ef14 hCl=>?_)
 cases ef14
 have hH:=hH.mono hI14;have hEs:=hEs.mono hI14;have hRt:=hRt.mono hI14;have hQ0:=hQ0.mono hI14;have hEm2:=hEm2.mono hI14;have hIc:=hIc.trans hI14
 refine JA (loc':=[]++[(b_8,.cells (Z3 no va1 n vc1 va2 es.length vc2 none 0 0).toArray 26 (0,0))]) rfl ?_
 refine Qg (zM ?_)
 refine zA (zN (Ql (zR ?_)))
 refine zM ?_
 refine zQ Zn ?_
 refine zM (zN (Qm ?_))
 refine zU [(0,_),(8,_),(89,_),(90,_)] (fun T L0 mz E I' loc'=>∃ (k:Nat) (lf:List Em) (dva:Option Addr) (dn:Nat) (dc:Nat) (va3:Option Addr) (vc3:Nat) (L:Go.Kn.Loc),mz=(rows.getD 0 []).length-k∧E=(17,.slice dva dn dc)::(91,.int .i64 k)::T∧HLe I14 I'∧L++[(b_8,.cells (Z3 no va1 n vc1 va2 es.length vc2 va3 k vc3).toArray 26 (0,0))]=loc'∧k≤(rows.getD 0 []).length∧lf=lfK es k∧Sl I' 3 Yt dva dn dc lf∧OwnS 3 1 (.slice va3 k vc3) k (((List.range k).map (Wf rows xs es)).flatMap QP) L) ?_ (h:=⟨0,es,_,_,_,none,0,[],rfl,rfl,zyv _,rfl,Nat.zero_le _,rfl,hEs,OwnS.nil⟩)
 rintro mz E J15 loc' ⟨k,lf,dva,dn,dc,va3,vc3,L,rfl,rfl,hJ,rfl,hk,hlf,hLf,hO⟩
 have hH:=hH.mono hJ;have hRt:=hRt.mono hJ;have hQ0:=hQ0.mono hJ;have hEm2:=hEm2.mono hJ;have hCl:=hCl.mono hJ;have hIc:=hIc.trans hJ
 have hB2:=hJ
 have hLfl:=hLf.len
 subst hLfl
 refine zR (zC (zN (Ql ?_)))
 refine zI ?_ ?_<;>intro hc92
 ·
  have hlt_k:k<(rows.getD 0 []).length:=by have h:=of_decide_eq_true hc92;omega
  obtain ⟨rhs,hRh9⟩:=id hRt
  have hRh:=hRh9.1
  obtain ⟨rx,rv,hrx,hrv,hQ⟩:=hRh9.at hlt_k
  have hrv2:=zl1 hcE hlt_k
  rw [hrv2] at hrv
  cases hrv
  have hrp:=zmq (rows:=rows) (cl:=xs) (l:=k)
  have hQl:=hQ.len
  have hq0:(Jz rows xs k)[0]? =some ((Jz rows xs k).getD 0 0):=Zj rfl hrp
  have hk0:v0[k]? =some (v0.getD k 0):=Zj rfl (by rw [←hg0];exact hlt_k)
  have hstl:=zkg (rows:=rows) (l:=k)
  have hrl:(Jz rows xs k).length≤(stE rows k).length:=List.length_filter_le _ _
  refine Qo (Qa (Ql (Qm (zR (zM ?_)))))
  refine zV (zX Zn hRh) ?_
  refine zV (Qd rfl QK (fun hg=>by exact zyo hRh hrx rfl)) ?_
  refine zA ?_
  refine zA ?_
  refine zN (zR ?_)
  refine zM ?_
  refine zV (zX Qy hQ) ?_
  refine zV (Qd rfl Qt (fun hg=>by exact zyo hQ hq0 rfl)) ?_
  refine zA (zN ?_)
  refine zY [(0,_),(8,_),(17,_),(18,_),(89,_),(90,_),(91,_)] (fun T L0 E I' loc'=>∃ (b9:Int),E=(20,.int .i64 b9)::T∧HLe J15 I'∧L++[(b_8,.cells (Z3 no va1 n vc1 va2 es.length vc2 va3 k vc3).toArray 26 (0,0))]=loc'∧b9=W0 rows xs k) ?_ ?_
  ·
   have hKc21:=zyv J15
   refine zR (zM ?_)
   refine zM ?_
   refine zV (zX Zn hH) ?_
   refine zV (Qd rfl QK (fun hg=>by exact zyo hH hx0 rfl)) ?_
   refine zM ?_
   refine zV (zX Qy hQ0) ?_
   refine zV (Qd rfl Qt (fun hg=>by exact zyo hQ0 hk0 rfl)) ?_
   refine qc (vs:=[_,_]) rfl zcU (JI hQ (by omega) _) ?_
   refine zN ?_
   refine zI ?_ ?_<;>intro hc106
   ·
    refine Qg (zM ?_)
    refine zV (zX Zn hH) ?_
    refine zV (Qd rfl QK (fun hg=>by exact zyo hH hx0 rfl)) ?_
    refine zM ?_
    refine zV (zX Qy hQ0) ?_
    refine zV (Qd rfl Qt (fun hg=>by exact zyo hQ0 hk0 rfl)) ?_
    refine zA (Qb ?_)
    first
    | exact Jk _ _ ⟨_,rfl,hKc21,rfl,by rw [←zmC (rows:=rows) (cl:=xs) (k:=k) (by rw [hg0];exact hc106),hg0]⟩ (.cons rfl (.cons rfl (.cons rfl (.cons rfl (.cons rfl (.cons rfl (.cons rfl (.cons rfl .nil)))))))) .refl
   refine Qo ?_
   first
   | exact Jk _ _ ⟨_,rfl,hKc21,rfl,zoZ (by rw [hg0];exact hc106)⟩ (.cons rfl (.cons rfl (.cons rfl (.cons rfl (.cons rfl (.cons rfl (.cons rfl (.cons rfl .nil)))))))) .refl
  rintro E J16 loc' ⟨b9,rfl,hJ106,rfl,hb9⟩
  have hLf:=hLf.mono hJ106;have hB2:=hB2.trans hJ106
  refine zY [(0,_),(8,_),(89,_),(90,_),(91,_)] (fun T L0 E I' loc'=>∃ (r9:Int) (lf2:List Em) (ea:Option Addr) (en ec:Nat),E=(17,.slice ea en ec)::(20,.int .i64 r9)::T∧HLe J16 I'∧L++[(b_8,.cells (Z3 no va1 n vc1 va2 es.length vc2 va3 k vc3).toArray 26 (0,0))]=loc'∧r9=Wf rows xs es k∧lf2=lfK es (k+1)∧Sl I' 3 Yt ea en ec lf2) ?_ ?_
  ·
   have hKc23:=zyv J16
   refine zR (zM ?_)
   refine zQ K7 ?_
   refine zC ?_
   refine zM ?_
   refine QG 3 rfl rfl rfl ?_
   refine zK (Qi rfl) ?_
   refine zK (zX K7 hLf) ?_
   refine zK (Qf rfl VT) ?_
   refine zK (Qd rfl Qt (fun hg=>by exact zyx (k:=0) hLf (Zj (d:=zj5) rfl (by first | omega | (simp [ZX] at hg;omega))) rfl)) ?_
   refine zK (Qi rfl) ?_
   refine zK (QJ rfl rfl rfl) ?_
   refine QO rfl rfl rfl rfl rfl ?_
   refine zN ?_
   refine zI ?_ ?_<;>intro hc123
   ·
    have hlf0:=(zbS (rows:=rows) (cl:=xs) hlf hc123).2.2
    refine Va mixed (by kernel_rfl) ?_
    refine zq (Qi rfl) ?_
    refine zq (zX K7 hLf) ?_
    refine zq (Qf rfl zb0) ?_
    refine zq (Qd rfl Qt (fun hg=>by exact zyx (k:=0) hLf (Zj (d:=zj5) rfl (by first | omega | (simp [ZX] at hg;omega))) rfl)) ?_
    refine zq (Qi rfl) ?_
    refine zq (zas rfl rfl K7 (fun hg=>by omega)) ?_
    refine zq (ZM rfl) ?_
    refine zq (ZM rfl) ?_
    refine Vc ?_
    exact Jk _ _ ⟨_,lf.drop 1,_,_,_,rfl,hKc23,rfl,(zbS (rows:=rows) (cl:=xs) hlf hc123).1,(zbS (rows:=rows) (cl:=xs) hlf hc123).2.1,hLf.drop hlf0⟩ (.cons rfl (.cons rfl (.cons rfl (.cons rfl (.cons rfl (.cons rfl (.cons rfl .nil))))))) .refl
   refine Qo ?_
   exact Jk _ _ ⟨_,lf,_,_,_,rfl,hKc23,rfl,hb9.trans (zjQ (rows:=rows) (cl:=xs) hlf hc123).1,(zjQ (rows:=rows) (cl:=xs) hlf hc123).2,hLf⟩ (.cons rfl (.cons rfl (.cons rfl (.cons rfl (.cons rfl (.cons rfl (.cons rfl .nil))))))) .refl
  rintro E J17 loc' ⟨r9,lf2,ea,en,ec,rfl,hJ123,rfl,hr9,hlf2,hLf2⟩
  have hB2:=hB2.trans hJ123
  refine Qg ?_
  refine zF VQ ?_
  refine zV (Qd rfl QK (fun hg=>by (repeat (first | exact zyq rfl | apply zyp | apply zyr)))) ?_
  refine zM ?_
  refine Qq (ps:=[(0,_)]) (m:=[QP r9]) Zf rfl (.cons rfl (.nil)) rfl (by simp [Qv]) (by decide) (by decide) rfl rfl (fun b_133=>?_)
  refine QW (v:=_) (ys:=[r9].flatMap QP) (L:=L) rfl rfl Zf hO (by repeat (first | exact .cons .here .nil | exact QD | exact Qw | apply QC | apply QA)) ⟨rfl,fun _=>rfl,by repeat (first | exact zyt | apply zys | apply zyu)⟩ (JG [r9]) (by omega) rfl rfl ?_
  intro v9 L9 hO9 _;rw [←List.flatMap_append] at hO9;obtain ⟨va9,vc9,rfl⟩:=zdh hO9
  refine zF VQ ?_
  refine ZG rfl rfl Zg rfl rfl (by (repeat (first | exact Upd.here | apply Upd.there | apply QI))) rfl ?_
  refine Qb (Qh (Qa (Qg (zB ?_))))
  refine zM (Qb ?_)
  exact zm (h:=⟨(rows.getD 0 []).length-(k+1),by omega,k+1,_,_,_,_,_,_,_,rfl,rfl,hB2,rfl,by omega,hlf2,hLf2,by rw [Xt,←hr9];exact hO9⟩)
 have hge_k:(rows.getD 0 []).length≤k:=by have h:=of_decide_eq_false hc92;omega
 obtain rfl:k=(rows.getD 0 []).length:=by omega
 refine QH (Qe (Qe (Qk (Qa (zR ?_)))))
 refine zV (Qp rfl ZW (fun hg=>by (repeat (first | exact zyt | apply zys | apply zyu))) rfl) ?_
 refine YO rfl rfl KK rfl rfl rfl rfl (by (repeat (first | exact Upd.here | apply Upd.there | apply QI))) ?_
 refine zA (zN (Qs ?_))
 first
 | exact Zv rfl rfl rfl ZW (vs:=Z3 no va1 n vc1 va2 es.length vc2 va3 (rows.getD 0 []).length vc3) (by repeat (first | exact zyt | apply zys | apply zyu)) rfl (fun w hw=>by obtain ⟨I9,av9,c9,h1',h2',e9,h4'⟩:=OwnS.freeze (R:=[_]) hO Qv (by decide) hw;cases e9;exact ⟨_,I9,[],rfl,hIc.trans h1',h2'.drop,rfl,_,by rw [znO hcE hc36 hgo]<;>rfl,.inl ⟨znO hcE hc36 hgo,va1,_,_,va2,_,_,va3,_,_,rfl,hCl.mono h1',hEm2.mono h1',h4'⟩⟩)
end
section
open Go Go.Kn Go.Proofs
def WS (rows:List (List Int))(no:Int)(cl:List Int)(es:List Em)(rd:List Int):Int:=if Wa rows no cl es≠0 then Wa rows no cl es else if rd=Vx rows cl es then 0 else 430
theorem ztn {rows:List (List Int)}{no:Int}{cl:List Int}{es:List Em}{rd:List Int}(h:Wa rows no cl es≠0):WS rows no cl es rd=Wa rows no cl es:=by unfold WS;rw [if_pos h]
theorem zxC {rows:List (List Int)}{no:Int}{cl:List Int}{es:List Em}{rd:List Int}(h:Wa rows no cl es=0)(h2:rd≠Vx rows cl es):WS rows no cl es rd=430:=by unfold WS;rw [if_neg (by omega),if_neg h2]
theorem zoL {rows:List (List Int)}{no:Int}{cl:List Int}{es:List Em}{rd:List Int}(h:Wa rows no cl es=0)(h2:rd=Vx rows cl es):WS rows no cl es rd=0:=by unfold WS;rw [if_neg (by omega),if_pos h2]
theorem zjr {rows:List (List Int)}{no:Int}{cl:List Int}{es:List Em}{rd:List Int}(h:WS rows no cl es rd=0):Wa rows no cl es=0∧rd=Vx rows cl es:=by
 unfold WS at h
 split at h
 ·
  rename_i h1;exact absurd h h1
 ·
  rename_i h1
  split at h
  ·
   rename_i h2;exact ⟨by omega,h2⟩
  ·
   cases h
theorem znN {rows:List (List Int)}{no:Int}{cl:List Int}{es:List Em}(h:Wa rows no cl es=0):YB rows cl=0:=by
 unfold Wa at h
 split at h
 ·
  rename_i h1;exact absurd h h1
 ·
  rename_i h1;omega
theorem Xw {rows:List (List Int)}{cl:List Int}(h:YB rows cl=0):VI rows=0:=by
 cases Decidable.em (VI rows=0) with
 | inl e=>exact e
 | inr e=>exact absurd ((zfW e).1.symm.trans h) e
theorem zxA.opn {rows:List (List Int)}{no:Int}{cl:List Int}{es:List Em}{v:Value}{I':Qu}{L:Go.Kn.Loc}(h:zxA rows no cl es v I' L):L=[]∧∃ (no2:Int) (cl2:List Int) (es2:List Em) (rd2:List Int) (a1:Option Addr) (n1 c1:Nat) (a2:Option Addr) (n2 c2:Nat) (a3:Option Addr) (n3 c3:Nat),
  v= .tuple #[.agg (Z3 no2 a1 n1 c1 a2 n2 c2 a3 n3 c3).toArray,.int .i64 (Wa rows no cl es)]∧Sl I' 1 QP a1 n1 c1 cl2∧Sl I' 3 Yt a2 n2 c2 es2∧Sl I' 1 QP a3 n3 c3 rd2∧
  (Wa rows no cl es=0→no2=no∧cl2=cl∧es2=es∧rd2=Vx rows cl es)∧(Wa rows no cl es≠0→no2=0∧cl2=[]∧es2=[]∧rd2=[]):=by
 obtain ⟨rfl,vs,rfl,h⟩:=h
 rcases h with ⟨h0,a1,n1,c1,a2,n2,c2,a3,n3,c3,rfl,h1,h2,h3⟩ | ⟨h0,a1,n1,c1,a2,n2,c2,a3,n3,c3,rfl,h1,h2,h3⟩
 ·
  exact ⟨rfl,no,cl,es,Vx rows cl es,a1,n1,c1,a2,n2,c2,a3,n3,c3,rfl,h1,h2,h3,fun _=>⟨rfl,rfl,rfl,rfl⟩,fun h=>absurd h0 h⟩
 ·
  exact ⟨rfl,0,[],[],[],a1,n1,c1,a2,n2,c2,a3,n3,c3,rfl,h1,h2,h3,fun h=>absurd h h0,fun _=>⟨rfl,rfl,rfl,rfl⟩⟩
/-! ### Signs -/
def nzF (row:List Int)(k:Nat):Nat:=((row.take k).filter fun c=>c != 0).length
theorem zgN {row:List Int}{k:Nat}{c:Int}(h:row[k]? =some c)(hc:(c==0)=false):nzF row (k+1)=nzF row k+1:=by
 unfold nzF;rw [List.take_add_one,h,List.filter_append,List.length_append]
 have h2:(c != 0)=true:=by simpa [bne] using hc
 simp [h2]
theorem zob {row:List Int}{k:Nat}{c:Int}(h:row[k]? =some c)(hc:(c==0)=true):nzF row (k+1)=nzF row k:=by
 unfold nzF;rw [List.take_add_one,h,List.filter_append,List.length_append]
 have h2:(c != 0)=false:=by simpa [bne] using hc
 simp [h2]
def zwL (ws:List Wr)(rows:List (List Int)):Prop:=∀ (i:Nat) (x:Wr) (row:List Int),ws[i]? =some x→rows[i]? =some row→∀ k,k<row.length→row.getD k 0≠0→nzF row k<x.rs.length
structure SgS where
 ex:Option Sg
 so:Option Sg
 many:Nat
 lost:Bool
def orS (a:Option Sg)(b:Sg):Option Sg:=match a with | none=>some b | some x=>some x
def zjM (code:Int)(s:SgS)(c:Int)(y:Rd):SgS:=
 if (c==0)=true then s else if y.lost=true then {s with lost:=true} else
 ⟨if (s.ex.isNone&&c==code)=true then some y.sg else s.ex,orS s.so y.sg,s.many+1,s.lost⟩
def zsw:Rd:=⟨false,zk8⟩
def ydF (ws:List Wr)(rows:List (List Int))(i k:Nat):Rd:=((ws[i]?).map (·.rs)).getD [] |>.getD (nzF (rows.getD i []) k) zsw
def sgK (ws:List Wr)(rows:List (List Int))(k:Nat)(code:Int):Nat→SgS
 | 0=>⟨none,none,0,false⟩
 | i+1=>zjM code (sgK ws rows k code i) ((rows.getD i []).getD k 0) (ydF ws rows i k)
inductive Out | err | skip | sg (x:Sg)
def Xj (k:Nat)(code:Int)(y:Sg)(m:Bool):Sg:={zg2 code with id:=(k:Int),bar:=y.bar,mark:=if m=true then 3 else y.mark,fn:=y.fn,fd:=y.fd,tn:=y.tn,td:=y.td}
def zbV (ws:List Wr)(rows:List (List Int))(k:Nat)(code:Int):Out:=
 if (code==0)=true then .skip else
 match (sgK ws rows k code rows.length).ex.or (sgK ws rows k code rows.length).so with
 | none=>.err
 | some y=>if (Uv code != 0)=true then .err else .sg (Xj k code y ((decide ((ws.length:Int)>1)&&((sgK ws rows k code rows.length).many:Int)==1)&& !(sgK ws rows k code rows.length).lost))
def Ws (ws:List Wr)(rows:List (List Int))(rd:List Int):Nat→Option (List Sg)
 | 0=>some []
 | k+1=>match Ws ws rows rd k with
  | none=>none
  | some l=>match zbV ws rows k (rd.getD k 0) with
   | .err=>none
   | .skip=>some l
   | .sg x=>some (l++[x])
theorem ze6 {ws : List Wr} {rows : List (List Int)} {rd : List Int} {k : Nat} (h : Ws ws rows rd k = none) : ∀ j, k ≤ j → Ws ws rows rd j = none
  | 0, hj => by obtain rfl : k = 0 := by omega
                cases h
  | j + 1, hj => by
    by_cases e : k = j + 1
    · subst e; exact h
    · show (match Ws ws rows rd j with | none => none | some l => match zbV ws rows j (rd.getD j 0) with | .err => none | .skip => some l | .sg x => some (l ++ [x])) = none
      rw [ze6 h j (by omega)]
theorem zjy {ws:List Wr}{rows:List (List Int)}{rd:List Int}{k:Nat}{l:List Sg}(h:Ws ws rows rd k=some l)(ho:zbV ws rows k (rd.getD k 0)= .err)(hk:k<rd.length):Ws ws rows rd rd.length=none:=by
 refine ze6 (k:=k+1) ?_ _ hk
 show (match Ws ws rows rd k with | none=>none | some l=>match zbV ws rows k (rd.getD k 0) with | .err=>none | .skip=>some l | .sg x=>some (l++[x]))=none
 rw [h];simp only;rw [ho]
theorem zk0 {ws:List Wr}{rows:List (List Int)}{rd:List Int}{k:Nat}{l:List Sg}(h:Ws ws rows rd k=some l)(ho:zbV ws rows k (rd.getD k 0)= .skip):Ws ws rows rd (k+1)=some l:=by
 show (match Ws ws rows rd k with | none=>none | some l=>match zbV ws rows k (rd.getD k 0) with | .err=>none | .skip=>some l | .sg x=>some (l++[x]))=_
 rw [h];simp only;rw [ho]
theorem zu3 {ws:List Wr}{rows:List (List Int)}{rd:List Int}{k:Nat}{l:List Sg}{x:Sg}(h:Ws ws rows rd k=some l)(ho:zbV ws rows k (rd.getD k 0)= .sg x):Ws ws rows rd (k+1)=some (l++[x]):=by
 show (match Ws ws rows rd k with | none=>none | some l=>match zbV ws rows k (rd.getD k 0) with | .err=>none | .skip=>some l | .sg x=>some (l++[x]))=_
 rw [h];simp only;rw [ho]
def Kl (ws:List Wr)(rows:List (List Int))(no:Int)(cl:List Int)(es:List Em)(rd:List Int):Int:=
 if zai ws≠0 then zai ws else if Uw ws≠rows then 430 else if WS rows no cl es rd≠0 then WS rows no cl es rd else if (Ws ws rows rd rd.length).isNone=true then 430 else 0
def Vf (ws:List Wr)(rows:List (List Int))(no:Int)(cl:List Int)(es:List Em)(rd:List Int):List Sg:=
 if Kl ws rows no cl es rd≠0 then [] else (Ws ws rows rd rd.length).getD []
theorem zka {ws:List Wr}{rows:List (List Int)}{no:Int}{cl:List Int}{es:List Em}{rd:List Int}(h:Kl ws rows no cl es rd≠0):Vf ws rows no cl es rd=[]:=by unfold Vf;rw [if_pos h]
theorem zwq {ws:List Wr}{rows:List (List Int)}{no:Int}{cl:List Int}{es:List Em}{rd:List Int}(h:zai ws≠0):Kl ws rows no cl es rd=zai ws:=by unfold Kl;rw [if_pos h]
theorem zwV {ws:List Wr}{rows:List (List Int)}{no:Int}{cl:List Int}{es:List Em}{rd:List Int}(h:zai ws=0)(h2:Uw ws≠rows):Kl ws rows no cl es rd=430:=by unfold Kl;rw [if_neg (by omega),if_pos h2]
theorem zxx {ws:List Wr}{rows:List (List Int)}{no:Int}{cl:List Int}{es:List Em}{rd:List Int}(h:zai ws=0)(h2:Uw ws=rows)(h3:WS rows no cl es rd≠0):Kl ws rows no cl es rd=WS rows no cl es rd:=by unfold Kl;rw [if_neg (by omega),if_neg (fun e=>e h2),if_pos h3]
theorem zta {ws:List Wr}{rows:List (List Int)}{no:Int}{cl:List Int}{es:List Em}{rd:List Int}(h:zai ws=0)(h2:Uw ws=rows)(h3:WS rows no cl es rd=0)(h4:Ws ws rows rd rd.length=none):Kl ws rows no cl es rd=430:=by unfold Kl;rw [if_neg (by omega),if_neg (fun e=>e h2),if_neg (by omega),h4];rfl
theorem ztS {ws:List Wr}{rows:List (List Int)}{no:Int}{cl:List Int}{es:List Em}{rd:List Int}{l:List Sg}(h:zai ws=0)(h2:Uw ws=rows)(h3:WS rows no cl es rd=0)(h4:Ws ws rows rd rd.length=some l):Kl ws rows no cl es rd=0∧Vf ws rows no cl es rd=l:=by
 have e:Kl ws rows no cl es rd=0:=by unfold Kl;rw [if_neg (by omega),if_neg (fun e=>e h2),if_neg (by omega),h4];rfl
 exact ⟨e,by unfold Vf;rw [if_neg (by omega),h4];rfl⟩
theorem zqy {ws:List Wr}(_h:zai ws=0):(WR ws != 0||ws.length==0)=false∨Uw ws=[]:=by
 cases e:(WR ws != 0||ws.length==0) with
 | false=>exact .inl rfl
 | true=>exact .inr (zoJ e).2
end
section
open Go Go.Kn Go.Proofs
theorem zmh:QX Tryz.prog 26 0 0:=.of (by kernel_rfl)
theorem ze3:QX Tryz.prog 26 1 1:=.of (by kernel_rfl)
theorem zbH:QX Tryz.prog 26 2 2:=.of (by kernel_rfl)
theorem zic:Fun Tryz.prog 25:=.of Tryz.func25 (by kernel_rfl) (by kernel_rfl)
theorem zju:ScT Tryz.prog 24:=.of (by kernel_rfl)
theorem zjD {I:Qu}{bv:Option Addr}{n2 c2:Nat}{rows:List (List Int)}(hVn:SlN I bv n2 c2 rows)(hn2:n2≤100000){ea1:Option Addr}{en1 ec1:Nat}{ea2:Option Addr}{en2 ec2:Nat}{ea3:Option Addr}{en3 ec3:Nat}{xs:List Int}{es:List Em}{rd:List Int}(hX1:Sl I 1 QP ea1 en1 ec1 xs)(hX2:Sl I 3 Yt ea2 en2 ec2 es)(hX3:Sl I 1 QP ea3 en3 ec3 rd)(hm1:en1≤100000)(hm2:en2≤100000)(hm3:en3≤100000)(no:Int)(hDb:VF I):Zx Tryz.prog 30 [.slice bv n2 c2,.agg (Z3 no ea1 en1 ec1 ea2 en2 ec2 ea3 en3 ec3).toArray] I (.int .i64 (WS rows no xs es rd)):=by
 intro g H w hw
 refine qe Tryz.func30 Tryz.ntmps30 hw ?_
 have hIc:=zyv I
 refine zR ?_
 refine Q5 rfl rfl rfl (fun b_3=>?_)
 refine zA ?_
 refine zN (zR ?_)
 refine zM ?_
 refine zF zmh ?_
 refine zL Qt ?_
 refine zF ze3 ?_
 refine zL QK ?_
 refine zF zbH ?_
 refine zL zju ?_
 refine Qx (cap:=[]) (vs:=[_,_,_,_]) rfl rfl zic .nil (zns hX1 hVn hn2 hX2 hm2 hm1 hDb no) rfl rfl ?_
 rintro vv1 I1 L1 hI1 hMQ
 have hX3:=hX3.mono hI1;have hIc:=hIc.trans hI1
 obtain ⟨rfl,no2,cl2,es2,rd2,a1,q1,c1,a2,q2,c9,a3,q3,c3,rfl,hM1,hM2,hM3,hMy,hMn⟩:=hMQ.opn
 refine zM ?_
 refine zE ?_
 refine zE ?_
 refine Qr zko rfl rfl (fun b_5=>?_)
 refine zh KK ?_
 refine zA (zN (Ql (zR ?_)))
 refine zM ?_
 refine zC (zN ?_)
 refine zI ?_ ?_<;>intro hc18
 ·
  have hE0:Wa rows no xs es≠0:=by have h:=hc18;simpa using h
  refine zR (zM ?_)
  refine zA (zN (Qs (Qc ?_)))
  first
  | exact zp hIc rfl rfl (by rw [ztn hE0]<;>rfl)
 have hE0:Wa rows no xs es=0:=by have h:=hc18;simpa using h
 obtain ⟨-, -, -,rfl⟩:=hMy hE0
 refine Qo (Qa (Ql (zR ?_)))
 refine zF VQ ?_
 refine zL QK ?_
 refine zF VQ ?_
 refine zL QK ?_
 refine qc (vs:=[_,_]) rfl znD (zjN hX3 hM3 hm3) ?_
 refine zO (zN ?_)
 refine zI ?_ ?_<;>intro hc25
 ·
  have hrd:rd≠Vx rows xs es:=fun e=>by have h:=hc25;rw [decide_eq_true e] at h;cases h
  refine zR (zA (zN (Qs (Qc ?_))))
  first
  | exact zp hIc rfl rfl (by rw [zxC hE0 hrd]<;>rfl)
 have hrd:rd=Vx rows xs es:=Decidable.byContradiction fun e=>by have h:=hc25;rw [decide_eq_false e] at h;cases h
 refine Qo (Qa (zR (zA (zN (Qs ?_)))))
 first
 | exact zp hIc rfl rfl (by rw [zoL hE0 hrd]<;>rfl)
end
section
open Go Go.Kn Go.Proofs
theorem zdH {ws:List Wr}:(Uw ws).length≤ws.length∧∀ x∈Uw ws,x.length≤256:=by
 unfold Uw
 split
 ·
  exact ⟨Nat.zero_le _,fun x hx=>by cases hx⟩
 ·
  rename_i h
  refine ⟨by simp,fun x hx=>?_⟩
  obtain ⟨i,_,rfl⟩:=List.mem_map.1 hx
  unfold zoQ
  rw [Z9]
  exact Nat.le_of_not_gt fun h2=>h (.inr h2)
theorem zeT {ws:List Wr}{rows:List (List Int)}(h:Uw ws=rows)(h0:0<rows.length):rows.length=ws.length:=by
 subst h
 unfold Uw at h0 ⊢
 split
 ·
  rename_i h;rw [if_pos h] at h0;simp at h0
 ·
  simp
theorem zxQ {row:List Int}{k:Nat}:nzF row k≤k:=by
 unfold nzF
 have h1:=List.length_filter_le (fun c:Int=>c != 0) (row.take k)
 have h2:=List.length_take_le k row
 omega
theorem zmF (xs:List Sg):Yq (xs.flatMap YZ)=true:=Yk (fun _=>rfl) xs
/-! ### What has been passed -/
def atN (rows:List (List Int))(k i:Nat):Nat→Nat:=fun j=>if j<i then nzF (rows.getD j []) (k+1) else nzF (rows.getD j []) k
theorem zer {rows:List (List Int)}{k i:Nat}:Yz (atN rows k i) i=((nzF (rows.getD i []) k:Nat):Int):=by unfold Yz atN;rw [if_neg (by omega)]
theorem zlm {rows:List (List Int)}:(fun _=>0)=atN rows 0 0:=by funext j;unfold atN;rw [if_neg (by omega)];rfl
theorem zrp {rows:List (List Int)}{k i:Nat}{v:Nat}(h:nzF (rows.getD i []) (k+1)=v):Ut (atN rows k i) i v=atN rows k (i+1):=by
 funext j
 by_cases e:j=i
 ·
  subst e;rw [KG];unfold atN;rw [if_pos (by omega),h]
 ·
  rw [XB e];unfold atN
  by_cases h2:j<i
  ·
   rw [if_pos h2,if_pos (by omega)]
  ·
   rw [if_neg h2,if_neg (by omega)]
theorem zuk {rows:List (List Int)}{k i:Nat}(h:nzF (rows.getD i []) (k+1)=nzF (rows.getD i []) k):atN rows k i=atN rows k (i+1):=by
 funext j
 unfold atN
 by_cases e:j=i
 ·
  subst e;rw [if_neg (by omega),if_pos (by omega),h]
 ·
  by_cases h2:j<i
  ·
   rw [if_pos h2,if_pos (by omega)]
  ·
   rw [if_neg h2,if_neg (by omega)]
theorem zlX {rows:List (List Int)}{k n:Nat}:Ve n (Yz (atN rows k n))=Ve n (Yz (atN rows (k+1) 0)):=by
 unfold Ve
 refine List.map_congr_left fun j hj=>?_
 unfold Yz atN
 rw [if_pos (List.mem_range.1 hj),if_neg (by omega)]
/-! ### The steps -/
theorem zpG {ws:List Wr}{rows:List (List Int)}{k i:Nat}{code:Int}(h:((rows.getD i []).getD k 0==0)=true):sgK ws rows k code i=sgK ws rows k code (i+1):=by
 show _=zjM code (sgK ws rows k code i) ((rows.getD i []).getD k 0) (ydF ws rows i k)
 unfold zjM;rw [if_pos h]
theorem zrU {ws:List Wr}{rows:List (List Int)}{k i:Nat}{code:Int}{s:SgS}(hs:s=sgK ws rows k code i)(h:((rows.getD i []).getD k 0==0)=false)(hl:(ydF ws rows i k).lost=true):{s with lost:=true}=sgK ws rows k code (i+1):=by
 show _=zjM code (sgK ws rows k code i) ((rows.getD i []).getD k 0) (ydF ws rows i k)
 unfold zjM;rw [if_neg (by rw [h];decide),if_pos hl,hs]
theorem zvb {ws:List Wr}{rows:List (List Int)}{k i:Nat}{code:Int}{s:SgS}{y:Rd}(hs:s=sgK ws rows k code i)(h:((rows.getD i []).getD k 0==0)=false)(hy:ydF ws rows i k=y)(hl:y.lost=false)(he:(s.ex.isNone&&(rows.getD i []).getD k 0==code)=true):
  (⟨some y.sg,orS s.so y.sg,s.many+1,s.lost⟩:SgS)=sgK ws rows k code (i+1):=by
 show _=zjM code (sgK ws rows k code i) ((rows.getD i []).getD k 0) (ydF ws rows i k)
 unfold zjM;rw [if_neg (by rw [h];decide),hy,if_neg (by rw [hl];decide),←hs,if_pos he]
theorem zxH {ws:List Wr}{rows:List (List Int)}{k i:Nat}{code:Int}{s:SgS}{y:Rd}(hs:s=sgK ws rows k code i)(h:((rows.getD i []).getD k 0==0)=false)(hy:ydF ws rows i k=y)(hl:y.lost=false)(he:(s.ex.isNone&&(rows.getD i []).getD k 0==code)=false):
  (⟨s.ex,orS s.so y.sg,s.many+1,s.lost⟩:SgS)=sgK ws rows k code (i+1):=by
 show _=zjM code (sgK ws rows k code i) ((rows.getD i []).getD k 0) (ydF ws rows i k)
 unfold zjM;rw [if_neg (by rw [h];decide),hy,if_neg (by rw [hl];decide),←hs,if_neg (by rw [he];decide)]
theorem ziS {ws:List Wr}{rows:List (List Int)}{k:Nat}{code:Int}:∀ i,(sgK ws rows k code i).many≤i
 | 0=>Nat.le_refl _
 | i+1=>by
  have ih:=ziS (ws:=ws) (rows:=rows) (k:=k) (code:=code) i
  show (zjM code (sgK ws rows k code i) ((rows.getD i []).getD k 0) (ydF ws rows i k)).many≤i+1
  unfold zjM
  split
  ·
   omega
  ·
   split
   ·
    show (sgK ws rows k code i).many≤i+1;omega
   ·
    show (sgK ws rows k code i).many+1≤i+1;omega
theorem zmr {ws:List Wr}{rows:List (List Int)}{k:Nat}{code:Int}(h:(code==0)=true):zbV ws rows k code= .skip:=by unfold zbV;rw [if_pos h]
theorem zli {ws:List Wr}{rows:List (List Int)}{k:Nat}{code:Int}{s:SgS}(h:(code==0)=false)(hs:s=sgK ws rows k code rows.length)(hn:s.ex.or s.so=none):zbV ws rows k code= .err:=by
 subst hs;unfold zbV;rw [if_neg (by rw [h];decide),hn]
theorem zo7 {ws:List Wr}{rows:List (List Int)}{k:Nat}{code:Int}{s:SgS}{y:Sg}(h:(code==0)=false)(hs:s=sgK ws rows k code rows.length)(hn:s.ex.or s.so=some y)(he:(Uv code != 0)=true):zbV ws rows k code= .err:=by
 subst hs;unfold zbV;rw [if_neg (by rw [h];decide),hn];simp only;rw [if_pos he]
theorem zsE {ws:List Wr}{rows:List (List Int)}{k:Nat}{code:Int}{s:SgS}{y:Sg}(h:(code==0)=false)(hs:s=sgK ws rows k code rows.length)(hn:s.ex.or s.so=some y)(he:(Uv code != 0)=false):
  zbV ws rows k code= .sg (Xj k code y ((decide ((ws.length:Int)>1)&&(s.many:Int)==1)&& !s.lost)):=by
 subst hs;unfold zbV;rw [if_neg (by rw [h];decide),hn];simp only;rw [if_neg (by rw [he];decide)]
theorem zsA {ws:List Wr}{rows:List (List Int)}{i k:Nat}{x:Wr}{y:Rd}(hx:ws[i]? =some x)(hy:x.rs[nzF (rows.getD i []) k]? =some y):ydF ws rows i k=y:=by
 unfold ydF;rw [hx];exact Q1 hy
theorem Cells.two {I:Qu}{b t off:Nat}{vs:List Value}{u u':Value}{fz:Nat×Nat}{l:Go.Kn.Loc}(h:I b=some (.cells vs.toArray t fz))(h0:vs[off]? =some u)(h1:vs[off+1]? =some u'):Cells I l b off [u,u']:=fun j v hj=>by
 rcases j with _ | _ | j
 ·
  cases hj;exact .imm h (by rw [Y3];simpa using h0)
 ·
  cases hj;exact .imm h (by rw [Y3];simpa using h1)
 ·
  simp at hj
def YY (t:Nat)(I:Qu)(p:Option Addr)(s:Option Sg):Prop:=match s with
 | none=>p=none
 | some x=>∃ b l,p=some ⟨b,1,none⟩∧I b=some (.cells (JM ⟨l,x⟩).toArray t (0,0))
theorem YY.mono {t:Nat}{I I':Qu}{p:Option Addr}{s:Option Sg}(h:YY t I p s)(hI:HLe I I'):YY t I' p s:=by
 cases s with
 | none=>exact h
 | some x=>obtain ⟨b,l,h1,h2⟩:=h;exact ⟨b,l,h1,hI _ _ h2⟩
theorem YY.isNone {t:Nat}{I:Qu}{p:Option Addr}{s:Option Sg}(h:YY t I p s):p.isNone=s.isNone:=by
 cases s with
 | none=>have h:p=none:=h;subst h;rfl
 | some x=>obtain ⟨b,l,rfl,h2⟩:=h;rfl
theorem YY.new {t:Nat}{I:Qu}{b:Nat}{y:Rd}(h:I b=some (.cells (JM y).toArray t (0,0))):YY t I (some ⟨b,0+1,none⟩) (some y.sg):=⟨b,y.lost,rfl,h⟩
theorem YY.orN {t:Nat}{I:Qu}{p q:Option Addr}{s:Option Sg}{y:Sg}(h:YY t I p s)(hp:p.isNone=true)(hq:YY t I q (some y)):YY t I q (orS s y):=by
 have:=h.isNone
 rw [hp] at this
 cases s with
 | none=>exact hq
 | some x=>cases this
theorem YY.orS {t:Nat}{I:Qu}{p:Option Addr}{s:Option Sg}{y:Sg}(h:YY t I p s)(hp:p.isNone=false):YY t I p (orS s y):=by
 have:=h.isNone
 rw [hp] at this
 cases s with
 | none=>cases this
 | some x=>exact h
theorem YY.orY {t:Nat}{I:Qu}{p q:Option Addr}{s u:Option Sg}(h:YY t I p s)(hp:p.isNone=true)(hq:YY t I q u):YY t I q (s.or u):=by
 have:=h.isNone
 rw [hp] at this
 cases s with
 | none=>exact hq
 | some x=>cases this
theorem YY.orX {t:Nat}{I:Qu}{p:Option Addr}{s u:Option Sg}(h:YY t I p s)(hp:p.isNone=false):YY t I p (s.or u):=by
 have:=h.isNone
 rw [hp] at this
 cases s with
 | none=>cases this
 | some x=>exact h
theorem YY.at {t:Nat}{I:Qu}{p:Option Addr}{s:Option Sg}(h:YY t I p s)(hp:p.isNone=false):∃ x b l,s=some x∧p=some ⟨b,1,none⟩∧I b=some (.cells (JM ⟨l,x⟩).toArray t (0,0)):=by
 have:=h.isNone
 rw [hp] at this
 cases s with
 | none=>cases this
 | some x=>obtain ⟨b,l,h1,h2⟩:=h;exact ⟨x,b,l,rfl,h1,h2⟩
theorem YY.none {t:Nat}{I:Qu}{p:Option Addr}{s:Option Sg}(h:YY t I p s)(hp:p.isNone=true):s=Option.none:=by
 have:=h.isNone
 rw [hp] at this
 cases s with
 | none=>rfl
 | some x=>cases this
end
section
open Go Go.Kn Go.Proofs
theorem zmW:Fun Tryz.prog 27:=.of Tryz.func27 (by kernel_rfl) (by kernel_rfl)
theorem znL:Fun Tryz.prog 30:=.of Tryz.func30 (by kernel_rfl) (by kernel_rfl)
theorem zsl:Fun Tryz.prog 82:=.of Tryz.func82 (by kernel_rfl) (by kernel_rfl)
theorem zaD:SzT Tryz.prog 52 2:=.of (by kernel_rfl)
theorem zbQ:Tryz.prog.underlying 155=some (.pointer 54):=by kernel_rfl
def znM (ws:List Wr)(rows:List (List Int))(no:Int)(cl:List Int)(es:List Em)(rd:List Int):Value→Qu→Go.Kn.Loc→Prop:=fun v I' L=>L=[]∧∃ av c,v= .tuple #[.slice av (Vf ws rows no cl es rd).length c,.int .i64 (Kl ws rows no cl es rd)]∧Sl I' 14 YZ av (Vf ws rows no cl es rd).length c (Vf ws rows no cl es rd)
theorem znM.bad {ws:List Wr}{rows:List (List Int)}{no:Int}{cl:List Int}{es:List Em}{rd:List Int}{I':Qu}{e:Int}(h:Kl ws rows no cl es rd=e)(he:e≠0):znM ws rows no cl es rd (.tuple #[.slice none 0 0,.int .i64 e]) I' []:=by
 have h0:=zka (show Kl ws rows no cl es rd≠0 by rw [h];exact he)
 exact ⟨rfl,none,0,by rw [h0,h];rfl,by rw [h0];exact .nil⟩
set_option maxHeartbeats 40000000 in
theorem w_Signs {I:Qu} {av:Option Addr} {n c:Nat} {ws:List Wr} (hW0:SlW I av n c ws) (hn:n≤100000) {bv:Option Addr} {n2 c2:Nat} {rows:List (List Int)} (hVn:SlN I bv n2 c2 rows) (hn2:n2≤100000) {ea1:Option Addr} {en1 ec1:Nat} {ea2:Option Addr} {en2 ec2:Nat} {ea3:Option Addr} {en3 ec3:Nat} {xs:List Int} {es:List Em} {rd:List Int} (hX1:Sl I 1 QP ea1 en1 ec1 xs) (hX2:Sl I 3 Yt ea2 en2 ec2 es) (hX3:Sl I 1 QP ea3 en3 ec3 rd) (hm1:en1≤100000) (hm2:en2≤100000) (hm3:en3≤100000) (no:Int) (hDb:VF I) (hnz:Uw ws=rows→zwL ws rows):Yc Tryz.prog 44 [.slice av n c,.slice bv n2 c2,.agg (Z3 no ea1 en1 ec1 ea2 en2 ec2 ea3 en3 ec3).toArray] I [] (znM ws rows no xs es rd):=by
 intro g H w hw
 refine qe Tryz.func44 Tryz.ntmps44 hw ?_
 have hIc:=zyv I
 obtain ⟨hds,hW⟩:=id hW0
 have hH:=hW.1
 have hlW:=hW.len
 subst hlW
 have hlV:=hVn.len
 subst hlV
 have hlX3:=hX3.len
 subst hlX3
 refine zR ?_
 refine Q5 rfl rfl rfl (fun b_5=>?_)
 refine zA ?_
 refine zA (zN ?_)
 refine zpX ?_
 refine zR (zM ?_)
 refine Qx (cap:=[]) (vs:=[_]) rfl rfl zmW .nil (zhK hW0 hn) rfl rfl ?_
 rintro vv1 I1 L1 hI1 ⟨rfl,av8,c8,rfl,hTb⟩
 have hW:=hW.mono hI1;have hH:=hH.mono hI1;have hVn:=hVn.mono hI1;have hX1:=hX1.mono hI1;have hX2:=hX2.mono hI1;have hX3:=hX3.mono hI1;have hDb:=hDb.mono hI1;have hIc:=hIc.trans hI1
 refine zM ?_
 refine zE ?_
 refine zE ?_
 refine zA ?_
 refine zA (zN (Ql (zR ?_)))
 refine zM ?_
 refine zC (zN ?_)
 refine zI ?_ ?_<;>intro hc28
 ·
  have hcT:zai ws≠0:=by have h:=hc28;simpa using h
  refine zR (zM ?_)
  refine zA ?_
  refine zA (zN (Qs (Qc ?_)))
  refine V9 ?_
  exact Zo rfl rfl rfl (fun w hw=>⟨_,_,[],rfl,hIc,hw.drop,znM.bad (zwq hcT) hcT⟩)
 have hcT:zai ws=0:=by have h:=hc28;simpa using h
 refine Qo (Qa (Ql (zR (zM ?_))))
 refine zM ?_
 refine qc (vs:=[_,_,_]) rfl zsl (zmi hTb hVn (by have:=(zdH (ws:=ws)).1;omega) (fun x hx=>Nat.le_trans (zdH.2 x hx) (by decide))) ?_
 refine zO (zN ?_)
 refine zI ?_ ?_<;>intro hc33
 ·
  have hne:Uw ws≠rows:=fun e=>by have h:=hc33;rw [decide_eq_true e] at h;cases h
  refine zR (zA ?_)
  refine zA (zN (Qs (Qc ?_)))
  refine V9 ?_
  exact Zo rfl rfl rfl (fun w hw=>⟨_,_,[],rfl,hIc,hw.drop,znM.bad (zwV hcT hne) (by decide)⟩)
 have heq:Uw ws=rows:=Decidable.byContradiction fun e=>by have h:=hc33;rw [decide_eq_false e] at h;cases h
 refine Qo (Qa (Ql (zR (zM ?_))))
 refine zV (Qp rfl ZW (fun hg=>by exact Cells.g0) rfl) ?_
 refine qc (vs:=[_,_]) rfl znL (zjD hVn hn2 hX1 hX2 hX3 hm1 hm2 hm3 no hDb) ?_
 refine zA ?_
 refine zN (zR ?_)
 refine zM ?_
 refine zC (zN ?_)
 refine zI ?_ ?_<;>intro hc38
 ·
  have hcE:WS rows no xs es rd≠0:=by have h:=hc38;simpa using h
  refine zR (zM ?_)
  refine zA ?_
  refine zA (zN (Qs (Qc ?_)))
  refine V9 ?_
  exact Zo rfl rfl rfl (fun w hw=>⟨_,_,[],rfl,hIc,hw.drop,znM.bad (zxx hcT heq hcE) hcE⟩)
 have hcE:WS rows no xs es rd=0:=by have h:=hc38;simpa using h
 obtain ⟨hm0,hrd⟩:=zjr hcE
 have hco:=znN hm0
 obtain ⟨hr1,hr6,hr64,hrr⟩:=Ww (Xw hco)
 have hlen:=zeT heq (by omega)
 have hrdl:rd.length=(rows.getD 0 []).length:=by rw [hrd];exact XE
 have hnz:=hnz heq
 obtain ⟨vhs,hV⟩:=id hVn
 have hVh:=hV.1
 refine Qo (Qa (Ql ?_))
 refine Ze (b:=b_5) (by repeat (first | exact Q8.here | apply Q8.there)) (fun I2 hI2 hb2=>?_)
 have hW:=hW.mono hI2;have hH:=hH.mono hI2;have hX3:=hX3.mono hI2;have hV:=hV.mono hI2;have hVh:=hVh.mono hI2;have hIc:=hIc.trans hI2
 have hC5:QV I2 [] b_5 3 (.slice ea3 rd.length ec3):=.imm hb2 rfl
 refine Qg (zM ?_)
 refine zQ Vg ?_
 refine Q3 YI rfl rfl (by omega) (by decide) rfl rfl (fun b_42=>?_)
 refine zA (Qb ?_)
 rw [show ((ws.length:Nat):Int).toNat=ws.length from rfl,Q2,Zd,Uz,zlm (rows:=rows)]
 refine Qa (Ql ?_)
 refine zqi ?_
 refine Qa (Ql (Ql ?_))
 refine JA (loc':=[]++[(b_42,.cells (Zh (Ve ws.length (Yz (atN rows 0 0)))) 3 (0,0))]) rfl ?_
 refine Qg ?_
 refine zF VQ ?_
 refine zV (Qd rfl QK (fun hg=>by exact hC5.any)) ?_
 refine zQ Qy ?_
 refine zM (zN (Qm ?_))
 refine zU [(0,_),(1,_),(10,_),(44,_),(45,_)] (fun T L0 mz E I' loc'=>∃ (k:Nat) (l:List Sg) (v6:Value) (L:Go.Kn.Loc),mz=rd.length-k∧E=(6,v6)::(46,.int .i64 k)::T∧HLe I2 I'∧L++[(b_42,.cells (Zh (Ve ws.length (Yz (atN rows k 0)))) 3 (0,0))]=loc'∧k≤rd.length∧Ws ws rows rd k=some l∧OwnS 54 14 v6 l.length (l.flatMap YZ) L∧l.length≤k) ?_ (h:=⟨0,[],_,[],rfl,rfl,zyv _,rfl,Nat.zero_le _,rfl,OwnS.nil,Nat.le_refl _⟩)
 rintro mz E J3 loc' ⟨k,l,v6,L,rfl,rfl,hJ,rfl,hk,hsg,hO,hlk⟩
 have hW:=hW.mono hJ;have hH:=hH.mono hJ;have hX3:=hX3.mono hJ;have hV:=hV.mono hJ;have hVh:=hVh.mono hJ;have hIc:=hIc.trans hJ
 have hB0:=hJ
 refine zR (zC (zN (Ql ?_)))
 refine zI ?_ ?_<;>intro hc47
 ·
  have hlt_k:k<rd.length:=by have h:=hc47;simp at h;omega
  obtain ⟨code,hk⟩:=hX3.at hlt_k
  refine Qo (Qa (Ql (Qm (zR (zM ?_)))))
  refine zV (zX Qy hX3) ?_
  refine zV (Qd rfl Qt (fun hg=>by exact zyo hX3 hk rfl)) ?_
  refine zA ?_
  refine zA ?_
  refine zN (zR ?_)
  refine zA ?_
  refine zA ?_
  refine zN (zR ?_)
  refine zA ?_
  refine zA (zN (Ql (zR ?_)))
  refine zM ?_
  refine zQ Zn ?_
  refine zM (zN (Qm ?_))
  refine zU [(0,_),(1,_),(6,_),(10,_),(11,_),(12,_),(44,_),(45,_),(46,_),(51,_),(52,_)] (fun T L0 mz E I' loc'=>∃ (i:Nat) (s:SgS) (p13:Option Addr) (p14:Option Addr),mz=rows.length-i∧E=(13,.pointer p13)::(14,.pointer p14)::(15,.int .i64 ((s.many:Nat):Int))::(16,.bool s.lost)::(53,.int .i64 i)::T∧HLe J3 I'∧L++[(b_42,.cells (Zh (Ve ws.length (Yz (atN rows k i)))) 3 (0,0))]=loc'∧i≤rows.length∧s=sgK ws rows k code i∧YY 60 I' p13 s.ex∧YY 60 I' p14 s.so) ?_ (h:=⟨0,⟨none,none,0,false⟩,none,none,rfl,rfl,zyv _,rfl,Nat.zero_le _,rfl,rfl,rfl⟩)
  rintro mz E J4 loc' ⟨i,s,p13,p14,rfl,rfl,hJ,rfl,hi,hs,hp13,hp14⟩
  have hW:=hW.mono hJ;have hH:=hH.mono hJ;have hV:=hV.mono hJ;have hVh:=hVh.mono hJ;have hIc:=hIc.trans hJ;have hB0:=hB0.trans hJ
  have hB2:=hJ
  refine zR (zC (zN (Ql ?_)))
  refine zI ?_ ?_<;>intro hc54
  ·
   have hlt_i:i<rows.length:=by have h:=hc54;simp at h;omega
   obtain ⟨vx,row,hvx,hvr,hQ⟩:=hV.at hlt_i
   obtain ⟨wx,xw,hwx,hxw,e1,e2,hR⟩:=hW.at (show i<ws.length by omega)
   have hrl:=(hrr row (List.mem_of_getElem? hvr)).1
   have hQl:=hQ.len
   have hRl:=hR.len
   have hrk:row[k]? =some (row.getD k 0):=Zj rfl (by omega)
   have hrk0:=hrk
   have hrg2:rows.getD i []=row:=Q1 hvr
   have hrg:(rows.getD i []).getD k 0=row.getD k 0:=by rw [hrg2]
   have hnzk:=zxQ (row:=rows.getD i []) (k:=k)
   have hms:=ziS (ws:=ws) (rows:=rows) (k:=k) (code:=code) i
   rw [←hs] at hms
   refine Qo (Qa (Ql (Qm (zR (zM ?_)))))
   refine zV (zX Zn hVh) ?_
   refine zV (Qd rfl QK (fun hg=>by exact zyo hVh hvx rfl)) ?_
   refine zA ?_
   refine zA (zN (Ql (zR ?_)))
   refine zM ?_
   refine zM ?_
   refine zV (zX Qy hQ) ?_
   refine zV (Qd rfl Qt (fun hg=>by exact zyo hQ hrk0 rfl)) ?_
   refine zC (zN ?_)
   refine zI ?_ ?_<;>intro hc62
   ·
    have hc62:(row.getD k 0==0)=true:=hc62
    refine JA (loc':=L++[(b_42,.cells (Zh (Ve ws.length (Yz (atN rows k (i+1))))) 3 (0,0))]) (by rw [zuk (by rw [hrg2];exact zob hrk hc62)]) ?_
    refine QH (Qe (Qk (Qa (Qg (zB ?_)))))
    refine zM (Qb ?_)
    first
    | exact zm (h:=⟨rows.length-(i+1),by omega,i+1,s,p13,p14,rfl,rfl,hB2,rfl,by omega,by rw [hs];exact zpG (by rw [hrg];exact hc62),hp13,hp14⟩)
   have hc62:(row.getD k 0==0)=false:=hc62
   have hnzi:=hnz i xw row hxw hvr k (by omega) (by have h:=hc62;simpa using h)
   obtain ⟨y,hy⟩:∃ y,xw.rs[nzF (rows.getD i []) k]? =some y:=⟨_,List.getElem?_eq_getElem (by rw [hrg2];exact hnzi)⟩
   have hyd:ydF ws rows i k=y:=zsA hxw hy
   have hnzi2:nzF (rows.getD i []) k<xw.rs.length:=by rw [hrg2];exact hnzi
   refine Qo (Qa (Ql ?_))
   have hD:=zyv J4
   refine KJ mixed ?_
   refine zT 0 rfl (Qi rfl) hD ?_
   refine zT 1 rfl (Qi rfl) hD ?_
   refine zT 2 rfl (zX Vg hH) hD ?_
   refine zT 3 rfl (Qf rfl UR) hD ?_
   refine zT 4 rfl (Qd rfl zcP (fun hg=>by exact zyx hH hwx rfl)) hD ?_
   refine zT 5 rfl (Qi rfl) hD ?_
   refine zT 6 rfl (Qi rfl) hD ?_
   refine zT 7 rfl (Q6 rfl rfl Qy (fun hg=>by omega)) hD ?_
   refine zT 8 rfl (Qd rfl Qt (fun hg=>by exact zyr (V0 (k:=i) (Yy (show i<_ by omega))))) hD ?_
   rw [zer]
   refine zT 9 rfl (zX XF hR) hD ?_
   refine zT 10 rfl (Qp rfl ze0 (fun hg=>by exact zyw hR hy) rfl) hD ?_
   refine qd 11 rfl ?_
   refine Qr zln rfl rfl (fun b_19=>?_)
   refine Qb ?_
   refine zD hD ?_
   refine qd 12 rfl ?_
   refine zh zeR ?_
   refine Qb ?_
   refine zD hD ?_
   refine QF (by kernel_rfl) ?_
   refine QQ ?_
   refine Qa (zR (zM ?_))
   refine zM ?_
   refine zV (Q6 rfl rfl Qy (fun hg=>by omega)) ?_
   refine zV (Qd rfl Qt (fun hg=>by exact zyp (zyr (V0 (k:=i) (Yy (show i<_ by omega)))))) ?_
   rw [zer]
   refine zB ?_
   refine zV (Q6 rfl rfl Qy (fun hg=>by omega)) ?_
   refine ZG rfl rfl Yf rfl rfl (by (repeat (first | exact Upd.here | apply Upd.there | apply QI))) (ztr (by rw [Z9];omega)) ?_
   refine Qb ?_
   rw [Vq,Ju,show ((nzF (rows.getD i []) k:Nat):Int)+1=((nzF (rows.getD i []) k+1:Nat):Int) from rfl,zaf,zrp (by rw [hrg2];exact zgN hrk hc62)]
   refine Qa (Ql (Ql ?_))
   refine Ze (b:=b_19) (by repeat (first | exact Q8.here | apply Q8.there)) (fun I5 hI5 hb19=>?_)
   have hp13:=hp13.mono hI5;have hp14:=hp14.mono hI5;have hQ:=hQ.mono hI5;have hB2:=hB2.trans hI5
   have hp19:=YY.new hb19
   refine Qg ?_
   refine zF V3 ?_
   refine zV (Qd rfl zbc (fun hg=>by exact .imm hb19 rfl)) ?_
   refine zN ?_
   refine zI ?_ ?_<;>intro hc81
   ·
    refine zR (zA (zN (QH (Qe (Qk (Qa (Qg ?_)))))))
    refine zB ?_
    refine zM (Qb ?_)
    first
    | exact zm (h:=⟨rows.length-(i+1),by omega,i+1,{s with lost:=true},p13,p14,rfl,rfl,hB2,rfl,by omega,zrU hs (by rw [hrg];exact hc62) (by rw [hyd];exact hc81),hp13,hp14⟩)
   refine Qo (Qa (zR (zM ?_)))
   refine zB ?_
   refine zA (zN ?_)
   refine zY [(0,_),(1,_),(6,_),(10,_),(11,_),(12,_),(13,_),(15,_),(16,_),(18,_),(19,_),(44,_),(45,_),(46,_),(51,_),(52,_),(53,_)] (fun T L0 E I' loc'=>∃ (q14:Option Addr),E=(14,.pointer q14)::T∧HLe I5 I'∧L++[(b_42,.cells (Zh (Ve ws.length (Yz (atN rows k (i+1))))) 3 (0,0))]=loc'∧YY 60 I' q14 (orS s.so y.sg)) ?_ ?_
   ·
    have hKc24:=zyv I5
    refine zR (zM ?_)
    refine zV (UB rfl rfl zbQ) ?_
    refine zN ?_
    refine zI ?_ ?_<;>intro hc85
    ·
     refine Qg ?_
     refine zF Jv ?_
     refine zA (Qb ?_)
     exact Jk _ _ ⟨_,rfl,hKc24,rfl,hp14.orN hc85 hp19⟩ (.cons rfl (.cons rfl (.cons rfl (.cons rfl (.cons rfl (.cons rfl (.cons rfl (.cons rfl (.cons rfl (.cons rfl (.cons rfl (.cons rfl (.cons rfl (.cons rfl (.cons rfl (.cons rfl (.cons rfl (.cons rfl .nil)))))))))))))))))) .refl
    refine Qo ?_
    exact Jk _ _ ⟨_,rfl,hKc24,rfl,hp14.orS hc85⟩ (.cons rfl (.cons rfl (.cons rfl (.cons rfl (.cons rfl (.cons rfl (.cons rfl (.cons rfl (.cons rfl (.cons rfl (.cons rfl (.cons rfl (.cons rfl (.cons rfl (.cons rfl (.cons rfl (.cons rfl (.cons rfl .nil)))))))))))))))))) .refl
   rintro E J6 loc' ⟨q14,rfl,hJ85,rfl,hq14⟩
   have hp13:=hp13.mono hJ85;have hQ:=hQ.mono hJ85;have hp19:=hp19.mono hJ85;have hB2:=hB2.trans hJ85
   refine zR (zM ?_)
   refine zV (UB rfl rfl zbQ) ?_
   refine zM ?_
   refine QG 2 rfl rfl rfl ?_
   refine zK (Qi rfl) ?_
   refine zK (Qi rfl) ?_
   refine zK (zX Qy hQ) ?_
   refine zK (Qd rfl Qt (fun hg=>by exact zyo hQ hrk0 rfl)) ?_
   refine zK (Qi rfl) ?_
   refine zK (QJ rfl rfl rfl) ?_
   refine QO rfl rfl rfl rfl rfl ?_
   refine zN ?_
   refine zI ?_ ?_<;>intro hc96
   ·
    refine Qg ?_
    refine zF Jv ?_
    refine zA (Qb (Qh (Qa (Qg ?_))))
    refine zB ?_
    refine zM (Qb ?_)
    first
    | exact zm (h:=⟨rows.length-(i+1),by omega,i+1,⟨some y.sg,orS s.so y.sg,s.many+1,s.lost⟩,_,q14,rfl,rfl,hB2,rfl,by omega,zvb hs (by rw [hrg];exact hc62) hyd hc81 (by rw [hrg,←hp13.isNone];exact hc96),hp19,hq14⟩)
   refine Qo (Qh (Qa (Qg (zB ?_))))
   refine zM (Qb ?_)
   first
   | exact zm (h:=⟨rows.length-(i+1),by omega,i+1,⟨s.ex,orS s.so y.sg,s.many+1,s.lost⟩,p13,q14,rfl,rfl,hB2,rfl,by omega,zxH hs (by rw [hrg];exact hc62) hyd hc81 (by rw [hrg,←hp13.isNone];exact hc96),hp13,hq14⟩)
  have hge_i:rows.length≤i:=by have h:=hc54;simp at h;omega
  obtain rfl:i=rows.length:=by omega
  refine QH (Qe (Qe (Qk (Qa (Ql (Ql ?_))))))
  refine JA (loc':=L++[(b_42,.cells (Zh (Ve ws.length (Yz (atN rows (k+1) 0)))) 3 (0,0))]) (by rw [hlen,zlX]) ?_
  refine Qg (zM ?_)
  refine zC (zN ?_)
  refine zI ?_ ?_<;>intro hc100
  ·
   refine QH (Qe (Qk (Qa (Qg (zB ?_)))))
   refine zM (Qb ?_)
   first
   | exact zm (h:=⟨rd.length-(k+1),by omega,k+1,_,_,_,rfl,rfl,hB0,rfl,by omega,zk0 hsg (by rw [Q1 hk];exact zmr hc100),hO,by omega⟩)
  refine Qo (Qa ?_)
  refine zY [(0,_),(1,_),(6,_),(10,_),(11,_),(12,_),(15,_),(16,_),(44,_),(45,_),(46,_)] (fun T L0 E I' loc'=>∃ (q13:Option Addr),E=(13,.pointer q13)::T∧HLe J4 I'∧L++[(b_42,.cells (Zh (Ve ws.length (Yz (atN rows (k+1) 0)))) 3 (0,0))]=loc'∧YY 60 I' q13 (s.ex.or s.so)) ?_ ?_
  ·
   have hKc30:=zyv J4
   refine zR (zM ?_)
   refine zV (UB rfl rfl zbQ) ?_
   refine zN ?_
   refine zI ?_ ?_<;>intro hc102
   ·
    refine Qg (zM ?_)
    refine zA (Qb ?_)
    exact Jk _ _ ⟨_,rfl,hKc30,rfl,hp13.orY hc102 hp14⟩ (.cons rfl (.cons rfl (.cons rfl (.cons rfl (.cons rfl (.cons rfl (.cons rfl (.cons rfl (.cons rfl (.cons rfl (.cons rfl (.cons rfl .nil)))))))))))) .refl
   refine Qo ?_
   exact Jk _ _ ⟨_,rfl,hKc30,rfl,hp13.orX hc102⟩ (.cons rfl (.cons rfl (.cons rfl (.cons rfl (.cons rfl (.cons rfl (.cons rfl (.cons rfl (.cons rfl (.cons rfl (.cons rfl (.cons rfl .nil)))))))))))) .refl
  rintro E J7 loc' ⟨q13,rfl,hJ102,rfl,hq13⟩
  have hIc:=hIc.trans hJ102;have hB0:=hB0.trans hJ102
  refine Ql (zR (zM ?_))
  refine zV (UB rfl rfl zbQ) ?_
  refine zN ?_
  refine zI ?_ ?_<;>intro hc105
  ·
   have hso:=hq13.none hc105
   refine zR (zA ?_)
   refine zA (zN (Qs (Qc (Qn (Qc (Qc (Qn ?_)))))))
   refine Qc ?_
   refine V9 ?_
   first
   | exact Zo rfl rfl rfl (fun w hw=>⟨_,_,[],rfl,hIc,hw.drop,znM.bad (zta hcT heq hcE (zjy hsg (by rw [Q1 hk];exact zli hc100 hs hso) hlt_k)) (by decide)⟩)
  obtain ⟨sy,spb,spl,hso,rfl,hsp⟩:=hq13.at hc105
  refine Qo (Qa (zR (zM ?_)))
  refine qc (vs:=[_]) rfl zie (zhS _ _) ?_
  refine zM ?_
  refine zE ?_
  refine zE ?_
  refine Qr WW rfl rfl (fun b_20=>?_)
  refine zh VG ?_
  refine zA (zN (Ql (zR ?_)))
  refine zM ?_
  refine zC (zN ?_)
  refine zI ?_ ?_<;>intro hc112
  ·
   have he1:(Uv code != 0)=true:=hc112
   refine zR (zA ?_)
   refine zA (zN (Qs (Qc (Qn (Qc (Qc (Qn ?_)))))))
   refine Qc ?_
   refine V9 ?_
   first
   | exact Zo rfl rfl rfl (fun w hw=>⟨_,_,[],rfl,hIc,hw.drop,znM.bad (zta hcT heq hcE (zjy hsg (by rw [Q1 hk];exact zo7 hc100 hs hso he1) hlt_k)) (by decide)⟩)
  have he0:(Uv code != 0)=false:=hc112
  refine Qo (Qa (Ql ?_))
  have hD:=zyv J7
  refine Jn ?_
  refine Z8 J7 [] mixed ?_
  refine zT 0 rfl (Qi rfl) hD ?_
  refine zT 1 rfl (Qi rfl) hD ?_
  refine zT 2 rfl (QZ rfl) hD ?_
  refine zT 3 rfl (Qf rfl Kf) hD ?_
  refine zT 4 rfl (Qd rfl Qt (fun hg=>by exact .imm hsp rfl)) hD ?_
  refine zT 5 rfl (Qi rfl) hD ?_
  refine zT 6 rfl (QZ rfl) hD ?_
  refine zT 7 rfl (Qf rfl Jw) hD ?_
  refine zT 8 rfl (Qd rfl Qt (fun hg=>by exact .imm hsp rfl)) hD ?_
  refine zT 9 rfl (Qi rfl) hD ?_
  refine zT 10 rfl (QZ rfl) hD ?_
  refine zT 11 rfl (Qf rfl Vy) hD ?_
  refine zT 12 rfl (Qp rfl Vl (fun hg=>by exact Cells.two hsp rfl rfl) rfl) hD ?_
  refine zT 13 rfl (Qi rfl) hD ?_
  refine zT 14 rfl (QZ rfl) hD ?_
  refine zT 15 rfl (Qf rfl VD) hD ?_
  refine zT 16 rfl (Qp rfl Vl (fun hg=>by exact Cells.two hsp rfl rfl) rfl) hD ?_
  refine zT 17 rfl (Qf rfl ZO) hD ?_
  refine qd 18 rfl ?_
  refine zS Yf ?_
  refine Qb ?_
  refine zD hD ?_
  refine zT 19 rfl (Qf rfl Kf) hD ?_
  refine qd 20 rfl ?_
  refine zS Yf ?_
  refine Qb ?_
  refine zD hD ?_
  refine zT 21 rfl (Qf rfl Jw) hD ?_
  refine qd 22 rfl ?_
  refine zS Yf ?_
  refine Qb ?_
  refine zD hD ?_
  refine zT 23 rfl (Qf rfl Vy) hD ?_
  refine qd 24 rfl ?_
  refine Jh rfl rfl zaD rfl rfl rfl rfl (by repeat (first | exact Upd.here | apply Upd.there | apply QI)) ?_
  refine Qb ?_
  refine zD hD ?_
  refine zT 25 rfl (Qf rfl VD) hD ?_
  refine qd 26 rfl ?_
  refine Jh rfl rfl zaD rfl rfl rfl rfl (by repeat (first | exact Upd.here | apply Upd.there | apply QI)) ?_
  refine Qb ?_
  refine zD hD ?_
  refine QF (by kernel_rfl) ?_
  refine QQ ?_
  refine zfA (loc':=(b_20,.cells (YZ ({zg2 code with id:=(k:Int),bar:=sy.bar,mark:=sy.mark,fn:=sy.fn,fd:=sy.fd,tn:=sy.tn,td:=sy.td}:Sg)).toArray 54 (0,0))::(L++[(b_42,.cells (Zh (Ve ws.length (Yz (atN rows (k+1) 0)))) 3 (0,0))])) rfl ?_
  refine Qa ?_
  refine zY [(0,_),(1,_),(6,_),(10,_),(20,_),(44,_),(45,_),(46,_)] (fun T L0 E I' loc'=>E=T∧HLe J7 I'∧(b_20,.cells (YZ (Xj k code sy ((decide ((ws.length:Int)>1)&&(s.many:Int)==1)&& !s.lost))).toArray 54 (0,0))::(L++[(b_42,.cells (Zh (Ve ws.length (Yz (atN rows (k+1) 0)))) 3 (0,0))])=loc') ?_ ?_
  ·
   have hKc38:=zyv J7
   refine zR (zM ?_)
   refine zQ Vg ?_
   refine zC ?_
   refine zM ?_
   refine QG 3 rfl rfl rfl ?_
   refine zK (Qi rfl) ?_
   refine zK (QJ rfl rfl rfl) ?_
   refine QO rfl rfl rfl rfl rfl ?_
   refine zM ?_
   refine QG 7 rfl rfl rfl ?_
   refine zK (Qi rfl) ?_
   refine zK (Vd rfl) ?_
   refine QO rfl rfl rfl rfl rfl ?_
   refine zN ?_
   refine zI ?_ ?_<;>intro hc145
   ·
    refine Qg ?_
    refine zF Jw ?_
    refine zS Yf ?_
    refine Qb ?_
    refine zfA (loc':=(b_20,.cells (YZ (Xj k code sy ((decide ((ws.length:Int)>1)&&(s.many:Int)==1)&& !s.lost))).toArray 54 (0,0))::(L++[(b_42,.cells (Zh (Ve ws.length (Yz (atN rows (k+1) 0)))) 3 (0,0))])) (by rw [hc145];rfl) ?_
    exact Jk _ _ ⟨rfl,hKc38,rfl⟩ (.cons rfl (.cons rfl (.cons rfl (.cons rfl (.cons rfl (.cons rfl (.cons rfl (.cons rfl .nil)))))))) .refl
   refine JA (loc':=(b_20,.cells (YZ (Xj k code sy ((decide ((ws.length:Int)>1)&&(s.many:Int)==1)&& !s.lost))).toArray 54 (0,0))::(L++[(b_42,.cells (Zh (Ve ws.length (Yz (atN rows (k+1) 0)))) 3 (0,0))])) (by rw [hc145];rfl) ?_
   refine Qo ?_
   exact Jk _ _ ⟨rfl,hKc38,rfl⟩ (.cons rfl (.cons rfl (.cons rfl (.cons rfl (.cons rfl (.cons rfl (.cons rfl (.cons rfl .nil)))))))) .refl
  rintro E J8 loc' ⟨rfl,hJ145,rfl⟩
  have hB0:=hB0.trans hJ145
  refine Qg (zM ?_)
  refine zV (Qp rfl ZK (fun hg=>by exact Cells.g0) rfl) ?_
  refine Qq (ps:=[(0,_)]) (m:=[YZ (Xj k code sy ((decide ((ws.length:Int)>1)&&(s.many:Int)==1)&& !s.lost))]) K8 rfl (.cons rfl (.nil)) rfl (by simp [Z5]) (by decide) (by decide) rfl rfl (fun b_149=>?_)
  refine QW (v:=_) (ys:=[Xj k code sy ((decide ((ws.length:Int)>1)&&(s.many:Int)==1)&& !s.lost)].flatMap YZ) (L:=L) rfl rfl K8 hO (by repeat (first | exact .cons .here .nil | exact QD | exact Qw | apply QC | apply QA)) ⟨rfl,fun _=>rfl,by repeat (first | exact zyt | apply zys | apply zyu)⟩ (zmF [Xj k code sy ((decide ((ws.length:Int)>1)&&(s.many:Int)==1)&& !s.lost)]) (by omega) rfl rfl ?_
  intro v9 L9 hO9 _;rw [←List.flatMap_append] at hO9
  refine zA (Qb (Qh (Qa (Qg ?_))))
  refine zB ?_
  refine zM (Qb ?_)
  first
  | exact zm (h:=⟨rd.length-(k+1),by omega,k+1,_,_,_,rfl,rfl,hB0,rfl,by omega,zu3 hsg (by rw [Q1 hk];exact zsE hc100 hs hso he0),by rw [List.length_append];exact hO9,by rw [List.length_append,List.length_singleton];omega⟩)
 have hge_k:rd.length≤k:=by have h:=hc47;simp at h;omega
 obtain rfl:k=rd.length:=by omega
 obtain ⟨t1,t2⟩:=ztS hcT heq hcE hsg
 refine QH (Qe (Qe (Qk (Qa (zR (zM ?_))))))
 refine zA ?_
 refine zA (zN (Qs ?_))
 refine V9 ?_
 first
 | exact Zo rfl rfl rfl (fun w hw=>by obtain ⟨I9,av9,c9,h1',h2',e9,h4'⟩:=OwnS.freeze (R:=[_]) hO Z5 (by decide) hw;subst e9;exact ⟨_,I9,[],rfl,hIc.trans h1',h2'.drop,rfl,av9,c9,by rw [t1,t2],by rw [t2];exact h4'⟩)
end
section
open Go Go.Kn Go.Proofs
def zkl (x:Int):List Int→List Int
 | []=>[x]
 | y::ys=>if x<y then x::y::ys else if x=y then y::ys else y::zkl x ys
theorem zbk {x z:Int}:∀ {l:List Int},z∈zkl x l↔z=x∨z∈l
 | []=>by simp [zkl]
 | y::ys=>by
  unfold zkl
  split
  ·
   simp
  ·
   split
   ·
    rename_i h;subst h;simp
   ·
    rw [List.mem_cons,zbk,List.mem_cons]
    constructor
    ·
     rintro (h | h | h)
     ·
      exact .inr (.inl h)
     ·
      exact .inl h
     ·
      exact .inr (.inr h)
    ·
     rintro (h | h | h)
     ·
      exact .inr (.inl h)
     ·
      exact .inl h
     ·
      exact .inr (.inr h)
theorem zhy {x:Int}:∀ {l:List Int},l.Pairwise (· < ·)→(zkl x l).Pairwise (· < ·)
 | [],_=>by simp [zkl]
 | y::ys,h=>by
  rw [List.pairwise_cons] at h
  unfold zkl
  split
  ·
   rename_i hxy
   rw [List.pairwise_cons,List.pairwise_cons]
   refine ⟨fun z hz=>?_,h⟩
   rcases List.mem_cons.1 hz with e | hz
   ·
    rw [e];exact hxy
   ·
    exact Int.lt_trans hxy (h.1 z hz)
  ·
   split
   ·
    rw [List.pairwise_cons];exact h
   ·
    rw [List.pairwise_cons]
    refine ⟨fun z hz=>?_,zhy h.2⟩
    rcases zbk.1 hz with rfl | hz
    ·
     omega
    ·
     exact h.1 z hz
def stU (rows:List (List Int))(l:Nat):List Int:=(stL rows l rows.length).foldr zkl []
theorem ztE (xs:List Int):(xs.foldr zkl []).Pairwise (· < ·)∧∀ z,z∈xs.foldr zkl []↔z∈xs:=by
 induction xs with
 | nil=>simp
 | cons x xs ih=>
  rw [List.foldr_cons]
  exact ⟨zhy ih.1,fun z=>by rw [zbk,ih.2,List.mem_cons]⟩
theorem zxj {a b:List Int}(ha:a.Pairwise (· < ·))(hb:b.Pairwise (· < ·))(h:∀ z,z∈a↔z∈b):a=b:=by
 have hp:a.Perm b:=(List.perm_ext_iff_of_nodup (ha.imp (by intro x y h e;omega)) (hb.imp (by intro x y h e;omega))).2 h
 exact hp.eq_of_pairwise (le:=(· < ·)) (by intro x y _ _ h1 h2;omega) ha hb
theorem zxI {rows:List (List Int)}{l:Nat}:stE rows l=stU rows l:=by
 refine zxj zs4 (ztE _).1 fun z=>?_
 unfold stU
 rw [(ztE _).2]
 unfold stE;rw [(Ks _).2]
def zle (rows:List (List Int))(cl:List Int)(l:Nat):List Int:=(stU rows l).filter fun x=>rcV (stU rows l) (uF rows l) cl 63 (Y6 rows.length) x==Yl (rcF (stU rows l) (uF rows l) cl 64 (Y6 rows.length))
theorem zkG:Jz=zle:=by
 funext rows cl l
 unfold Jz zle ziD zoi
 rw [zxI]
def zmf (rows:List (List Int))(cl:List Int)(k:Nat):Int:=if (zle rows cl k).any (fun y=>(rows.getD 0 []).getD k 0==y)=true then (rows.getD 0 []).getD k 0 else (zle rows cl k).getD 0 0
def zqJ (rows:List (List Int))(cl:List Int)(es:List Em)(k:Nat):Int:=match lfK es k with
 | []=>zmf rows cl k
 | e::_=>if e.locus=(k:Int) then e.code else zmf rows cl k
theorem zld:Wf=zqJ:=by
 funext rows cl es k
 have hb:W0 rows cl k=zmf rows cl k:=by unfold W0 zmf;rw [zkG]
 unfold Wf zqJ
 rw [hb]<;>(cases lfK es k<;>rfl)
theorem zfU {rows:List (List Int)}{cl:List Int}{es:List Em}:Vx rows cl es=(List.range (rows.getD 0 []).length).map (zqJ rows cl es):=by unfold Vx;rw [zld]
end
section
open Go Go.Kn Go.Proofs
def cz:Nat→(Nat→Int)→Nat
 | 0,_=>0
 | n+1,f=>cz n f+(if f n=0 then 0 else 1)
theorem zdT:∀ n,cz n (fun _=>0)=0
 | 0=>rfl
 | n+1=>by unfold cz;rw [zdT n];rfl
theorem zoe {f:Nat→Int}{a:Nat}{v:Int}:∀ n,cz n (Ut f a v)≤cz n f+(if a<n then 1 else 0)
 | 0=>Nat.zero_le _
 | n+1=>by
  have ih:=zoe (f:=f) (a:=a) (v:=v) n
  unfold cz
  by_cases e:n=a
  ·
   subst e
   rw [KG,if_pos (show n<n+1 by omega)]
   rw [if_neg (show ¬n<n by omega)] at ih
   split<;>split<;>omega
  ·
   rw [XB e]
   by_cases h:a<n
   ·
    rw [if_pos h] at ih
    rw [if_pos (show a<n+1 by omega)]
    split<;>omega
   ·
    rw [if_neg h] at ih
    rw [if_neg (show ¬a<n+1 by omega)]
    split<;>omega
theorem zi8 {f:Nat→Int}{a n:Nat}{v:Int}:cz n (Ut f a v)≤cz n f+1:=by
 have:=zoe (f:=f) (a:=a) (v:=v) n
 split at this<;>omega
theorem zsS {w:Nat→Nat}{T:List Int}{n:Nat}:∀ k,cz n (txF w T k)≤k
 | 0=>by show cz n (fun _=>0)≤0;rw [zdT];exact Nat.le_refl _
 | k+1=>by
  have ih:=zsS (w:=w) (T:=T) (n:=n) k
  have:=zi8 (f:=txF w T k) (a:=VN w k+w k) (n:=n) (v:=T.getD k 0)
  show cz n (Ut (txF w T k) (VN w k+w k) (T.getD k 0))≤k+1
  omega
def both (y:Int×Int):Bool:=decide (y.1>0)&&decide (y.2>0)
theorem zwc {w:Nat→Nat}{l:List Int}{n:Nat}(ps:List (Int×Int)):∀ (f:Nat→Int),cz n (ps.foldl (prF w l) f)≤cz n f+(ps.filter both).length:=by
 induction ps with
 | nil=>intro f;exact Nat.le_refl _
 | cons y ps ih=>
  intro f
  rw [List.foldl_cons]
  have h:=ih (prF w l f y)
  cases hb:(decide (y.1>0)&&decide (y.2>0)) with
  | true=>
   rw [zgM hb] at h ⊢
   have h2:=zi8 (f:=f) (a:=VN w (y.1-1).toNat+w (y.1-1).toNat) (n:=n) (v:=l.getD (y.2-1).toNat 0)
   rw [List.filter_cons_of_pos (show both y=true from hb),List.length_cons];omega
  | false=>
   rw [znz hb] at h ⊢
   rw [List.filter_cons_of_neg (show ¬both y=true by unfold both;rw [hb];decide)];exact h
theorem zxB {w:Nat→Nat}{l:List Int}{n:Nat}(qs:List (Int×Int)):∀ (s:(Nat→Int)×(Nat→Nat)),cz n (qs.foldl (alS w l) s).1≤cz n s.1+qs.length:=by
 induction qs with
 | nil=>intro s;exact Nat.le_refl _
 | cons q qs ih=>
  intro s
  rw [List.foldl_cons]
  have h:=ih (alS w l s q)
  have h2:=zi8 (f:=s.1) (a:=VN w q.1.toNat+s.2 q.1.toNat) (n:=n) (v:=l.getD q.2.toNat 0)
  have h3:cz n (alS w l s q).1≤cz n s.1+1:=h2
  rw [List.length_cons];omega
def sec (y:Int×Int):Bool:=decide (y.2>0)
theorem zdA {m n:Nat}:∀ (ps:List (Int×Int)) (a:Int),(∀ p∈ps,QOK m n p)→(ps.filter both).length+(zaj a ps).length≤(ps.filter sec).length
 | [],_,_=>Nat.le_refl _
 | p::ps,a,h=>by
  obtain ⟨i,k,rfl,_,_,h0⟩:=h p (List.mem_cons_self ..)
  have hr:=fun q hq=>h q (List.mem_cons_of_mem _ hq)
  unfold zaj
  split
  ·
   rename_i hi
   have ih:=zdA ps (i:Int) hr
   by_cases hk:0<k
   ·
    rw [List.filter_cons_of_pos (show both ((i:Int),(k:Int))=true by unfold both;simp at hi ⊢;omega),List.filter_cons_of_pos (show sec ((i:Int),(k:Int))=true by unfold sec;simp;omega),List.length_cons,List.length_cons]
    have ih:(ps.filter both).length+(zaj ((i:Int),(k:Int)).1 ps).length≤(ps.filter sec).length:=ih
    omega
   ·
    rw [List.filter_cons_of_neg (show ¬both ((i:Int),(k:Int))=true by unfold both;simp;omega),List.filter_cons_of_neg (show ¬sec ((i:Int),(k:Int))=true by unfold sec;simp;omega)]
    exact ih
  ·
   rename_i hi
   have ih:=zdA ps a hr
   have hi0:i=0:=by simp at hi;omega
   rw [List.filter_cons_of_neg (show ¬both ((i:Int),(k:Int))=true by unfold both;simp;omega),List.filter_cons_of_pos (show sec ((i:Int),(k:Int))=true by unfold sec;simp;omega),List.length_cons,List.length_cons]
   omega
theorem ze5 {a b:List Int}:∀ (f i k:Nat),i≤a.length→k≤b.length→((paF a b f i k).filter sec).length+k≤b.length
 | 0,_,k,_,hk=>by show 0+k≤_;omega
 | f+1,i,k,hi,hk=>by
  unfold paF
  split
  ·
   rename_i hg
   split
   ·
    rename_i hb
    have h1:i<a.length∧k<b.length:=by unfold WV at hb;simp at hb;omega
    have ih:=ze5 f (i+1) (k+1) h1.1 h1.2
    rw [List.filter_cons_of_pos (show sec (((i+1:Nat):Int),((k+1:Nat):Int))=true by unfold sec;simp<;>omega),List.length_cons];omega
   ·
    rename_i hb
    split
    ·
     rename_i ho
     have h1:i<a.length:=by unfold zgE at ho;simp at ho;omega
     have ih:=ze5 f (i+1) k h1 hk
     rw [List.filter_cons_of_neg (show ¬sec (((i+1:Nat):Int),(0:Int))=true by unfold sec;simp)];exact ih
    ·
     rename_i ho
     have h1:k<b.length:=zhw hi hk (by simp at hg;omega) (by simpa using hb) (by simpa using ho)
     have ih:=ze5 f i (k+1) hi h1
     rw [List.filter_cons_of_pos (show sec ((0:Int),((k+1:Nat):Int))=true by unfold sec;simp<;>omega),List.length_cons];omega
  ·
   show 0+k≤_;omega
theorem zqP {xs:List Wr}{i:Nat}:((pfW xs i).filter both).length+(alW xs i).length≤(csW xs i).length:=by
 have h1:=zdA (pfW xs i) 0 (X5 (xs:=xs) (i:=i)).1
 have h2:((pfW xs i).filter sec).length≤(csW xs i).length:=by
  unfold pfW
  split
  ·
   exact Nat.zero_le _
  ·
   unfold VR
   split
   ·
    exact Nat.zero_le _
   ·
    have:=ze5 (a:=csW xs 0) (b:=csW xs i) ((csW xs 0).length+(csW xs i).length) 0 0 (Nat.zero_le _) (Nat.zero_le _)
    unfold zme;omega
 exact Nat.le_trans h1 h2
theorem zvc {xs:List Wr}{i n:Nat}:cz n (zqp (wdW xs) (csW xs 0) (csW xs i) i (pfW xs i))≤(csW xs i).length:=by
 unfold zqp alP
 have h1:=zxB (w:=wdW xs) (l:=csW xs i) (n:=n) (zhx (pfW xs i)) ((pfW xs i).foldl (prF (wdW xs) (csW xs i)) (if i=0 then txF (wdW xs) (csW xs 0) (csW xs 0).length else fun _=>0),fun _=>0)
 have h2:=zwc (w:=wdW xs) (l:=csW xs i) (n:=n) (pfW xs i) (if i=0 then txF (wdW xs) (csW xs 0) (csW xs 0).length else fun _=>0)
 have h3:=zqP (xs:=xs) (i:=i)
 by_cases h0:i=0
 ·
  subst h0
  have h4:=zsS (w:=wdW xs) (T:=csW xs 0) (n:=n) (csW xs 0).length
  have e1:pfW xs 0=[]:=rfl
  rw [e1] at h1 h2 ⊢
  simp only [if_true] at h1 h2 ⊢
  have e2:zhx []=[]:=rfl
  rw [e2] at h1 ⊢
  simp only [List.filter_nil,List.length_nil,Nat.add_zero] at h1 h2
  omega
 ·
  rw [if_neg h0] at h1 h2 ⊢
  rw [zdT] at h2
  have e3:(alW xs i).length=(zhx (pfW xs i)).length:=rfl
  simp only at h1
  omega
theorem znJ {n:Nat}{f:Nat→Int}:∀ k,k≤n→nzF (Ve n f) k=cz k f
 | 0,_=>rfl
 | k+1,hk=>by
  have ih:=znJ (n:=n) (f:=f) k (by omega)
  have hx:(Ve n f)[k]? =some (f k):=Yy (by omega)
  unfold cz
  by_cases h:f k=0
  ·
   rw [zob hx (by simp [h]),ih,if_pos h];rfl
  ·
   rw [zgN hx (by simp [h]),ih,if_neg h]
theorem zjk {xs:List Wr}:zwL xs (Uw xs):=by
 intro i x row hx hr k hk h0
 have hil:(Uw xs).length≤xs.length:=zdH.1
 unfold Uw at hr
 split at hr
 ·
  simp at hr
 ·
  rw [List.getElem?_map] at hr
  have hi:=(List.getElem?_eq_some_iff.1 hx).1
  rw [List.getElem?_range hi,Option.map_some] at hr
  have hr:=(Option.some.inj hr).symm
  subst hr
  unfold zoQ at hk h0 ⊢
  rw [Z9] at hk
  have hg:=Q1 (d:=0) (Yy (f:=zqp (wdW xs) (csW xs 0) (csW xs i) i (pfW xs i)) hk)
  rw [hg] at h0
  rw [znJ k (by omega)]
  have h1:=zvc (xs:=xs) (i:=i) (n:=k+1)
  have h2:cz (k+1) (zqp (wdW xs) (csW xs 0) (csW xs i) i (pfW xs i))=cz k (zqp (wdW xs) (csW xs 0) (csW xs i) i (pfW xs i))+1:=by
   show _+(if _ then 0 else 1)=_
   rw [if_neg h0]
  have h3:(csW xs i).length=x.rs.length:=by rw [zfv hx,List.length_map]
  omega
end
section
open Go Go.Kn Go.Proofs
theorem zrr {ws:List Wr}(h:zai ws=0)(h0:0<(Uw ws).length):WR ws=0∧(Uw ws).length=ws.length:=by
 rcases zqy h with h1 | h1
 ·
  exact ⟨(zjg h1).1,zeT rfl h0⟩
 ·
  rw [h1] at h0;simp at h0
end
section
open Go Go.Kn Go.Proofs
section
variable {ws:List Wr} {rows:List (List Int)} {no:Int} {cl:List Int} {es:List Em} {rd:List Int}
theorem zpC (h1:zai ws=0)(h2:Uw ws=rows)(h3:WS rows no cl es rd=0):rows.length=ws.length∧(∀ r∈rows,r.length=rd.length)∧rd.length≤64∧zwL ws rows∧(∀ x∈ws,x.rs.length≤64)∧YB rows cl=0∧rd=Vx rows cl es:=by
 obtain ⟨hm,hr⟩:=zjr h3
 have hc:YB rows cl=0:=by
  cases Decidable.em (YB rows cl=0) with
  | inl h=>exact h
  | inr h=>rw [zho h] at hm;exact absurd hm h
 obtain ⟨hr1,hr6,hr64,hrr⟩:=Ww (Xw hc)
 have hl:rd.length=(rows.getD 0 []).length:=by rw [hr,XE]
 obtain ⟨hk,hlen⟩:=zrr h1 (by rw [h2];omega)
 rw [h2] at hlen
 have h64:∀ x∈ws,x.rs.length≤64:=fun x hx=>by
  unfold WR at hk
  split at hk
  ·
   omega
  ·
   split at hk
   ·
    omega
   ·
    rename_i hq
    have hq2:∀ x∈ws,x.rs.length≤64:=by simpa using hq
    exact hq2 x hx
 exact ⟨hlen,fun r hr'=>by rw [(hrr r hr').1,hl],by omega,by rw [←h2];exact zjk,h64,hc,hr⟩
end
end
section
open Go Go.Kn Go.Proofs
def ixF {α:Type}(P:α→Bool)(xs:List α):List Int:=(xs.zipIdx.filter fun q=>P q.1).map fun q=>(q.2:Int)
theorem zjm {α:Type}{P:α→Bool}{xs:List α}{k:Nat}{x:α}(hx:xs[k]? =some x):ixF P (xs.take (k+1))=ixF P (xs.take k)++(if P x then [(k:Int)] else []):=by
 obtain ⟨hk,hk2⟩:=List.getElem?_eq_some_iff.1 hx
 have e:xs.take (k+1)=xs.take k++[x]:=by rw [List.take_add_one,hx];rfl
 unfold ixF
 rw [e,List.zipIdx_append,List.filter_append,List.map_append]
 have hl:(xs.take k).length=k:=by rw [List.length_take];omega
 cases h:P x<;>simp [h,hl]
theorem zif {α:Type}{P:α→Bool}{xs:List α}{k:Nat}{x:α}(hx:xs[k]? =some x)(h:P x=true):ixF P (xs.take (k+1))=ixF P (xs.take k)++[(k:Int)]:=by rw [zjm hx,if_pos h]
theorem zqZ {α:Type}{P:α→Bool}{xs:List α}{k:Nat}{x:α}(hx:xs[k]? =some x)(h:P x=false):ixF P (xs.take (k+1))=ixF P (xs.take k):=by rw [zjm hx,if_neg (by rw [h];decide),List.append_nil]
def K3 (rows:List (List Int))(k:Nat)(c:Int):List Int:=ixF (fun r=>r.getD k 0==c) rows
def zgw (k:Nat)(n:Int):Option Int→List Int→Option Int
 | o,r=>if decide (r.getD k 0>n)&&(match o with | none=>true | some b=>decide (r.getD k 0<b)) then some (r.getD k 0) else o
def znC (rows:List (List Int))(k:Nat)(n:Int):Option Int:=rows.foldl (zgw k n) none
theorem zij {k:Nat}{n:Int}{o:Option Int}{r:List Int}(h:(decide (r.getD k 0>n)&&(!o.isSome||decide (r.getD k 0<o.getD 0)))=true):zgw k n o r=some (r.getD k 0):=by
 cases o<;>simp_all [zgw]
theorem zmX {k:Nat}{n:Int}{o:Option Int}{r:List Int}(h:(decide (r.getD k 0>n)&&(!o.isSome||decide (r.getD k 0<o.getD 0)))=false):zgw k n o r=o:=by
 cases o<;>simp_all [zgw]<;>omega
structure Vt where
 code:Int
 ws:List Int
structure En where
 loc:Int
 lem:Int
 vs:List Vt
structure Og where
 k:Int
 r:Int
 ws:List Int
 ps:List Int
deriving DecidableEq
def zwe (q:Nat)(r:List Int):Bool:=r.getD q 0 != 0&&r.getD q 0 != 8589934592
def zx1 (q:Int)(e:Em):Bool:=e.locus==q&&e.reason==2
def OgQ (o:Og)(v:Value)(I:Qu)(L:Go.Kn.Loc):Prop:=L=[]∧∃ a n c b m d,v= .agg #[.int .i64 o.k,.int .i64 o.r,.slice a n c,.slice b m d]∧Sl I 1 QP a n c o.ws∧Sl I 1 QP b m d o.ps
def zr3 (rows:List (List Int))(q:Nat):Nat→Option Int→List Vt
 | _,none=>[]
 | 0,some _=>[]
 | m+1,some c=>⟨c,K3 rows q c⟩::zr3 rows q m (znC rows q c)
def zoh (rows:List (List Int))(q:Nat):List Vt:=zr3 rows q rows.length (znC rows q (-1))
theorem zhF {q:Nat}{n:Int}:∀ {rows:List (List Int)} {o:Option Int} {c:Int},rows.foldl (zgw q n) o=some c→o=some c∨(n<c∧∃ r∈rows,r.getD q 0=c)
 | [],o,c,h=>.inl h
 | r::rows,o,c,h=>by
  rcases zhF (rows:=rows) h with h1 | ⟨h1,r',h2,h3⟩
  ·
   cases hb:(decide (r.getD q 0>n)&&(!o.isSome||decide (r.getD q 0<o.getD 0))) with
   | true=>
    rw [zij hb] at h1
    cases h1
    simp only [Bool.and_eq_true,decide_eq_true_eq] at hb
    exact .inr ⟨hb.1,r,List.mem_cons_self ..,rfl⟩
   | false=>rw [zmX hb] at h1;exact .inl h1
  ·
   exact .inr ⟨h1,r',List.mem_cons_of_mem _ h2,h3⟩
theorem znB {rows:List (List Int)}{q:Nat}{n c:Int}(h:znC rows q n=some c):n<c∧∃ r∈rows,r.getD q 0=c:=(zhF h).resolve_left (by simp)
theorem zhf {rows:List (List Int)}{q m:Nat}{c:Int}:zr3 rows q (m+1) (some c)=⟨c,K3 rows q c⟩::zr3 rows q m (znC rows q c):=rfl
theorem zid {rows:List (List Int)}{q m:Nat}:zr3 rows q m none=[]:=by cases m<;>rfl
def zal {α β:Type}(R:α→β→Prop)(hs:List α)(vs:List β):Prop:=hs.length=vs.length∧∀ (k:Nat) (h:α) (v:β),hs[k]? =some h→vs[k]? =some v→R h v
theorem zal.nil {α β:Type}{R:α→β→Prop}:zal R [] []:=⟨rfl,fun k h v a=>by simp at a⟩
theorem zal.imp {α β:Type}{R R':α→β→Prop}{hs:List α}{vs:List β}(h:zal R hs vs)(hi:∀ a b,R a b→R' a b):zal R' hs vs:=⟨h.1,fun k x v a b=>hi _ _ (h.2 k x v a b)⟩
theorem zal.snoc {α β:Type}{R:α→β→Prop}{hs:List α}{vs:List β}(h:zal R hs vs){x:α}{v:β}(hV:R x v):zal R (hs++[x]) (vs++[v]):=by
 refine ⟨by simp [h.1],fun k y z a b=>?_⟩
 rw [List.getElem?_append] at a b
 rw [h.1] at a
 split at a
 ·
  next hk=>rw [if_pos hk] at b;exact h.2 k y z a b
 ·
  next hk=>
  rw [if_neg hk] at b
  cases hk2:k-vs.length with
  | zero=>rw [hk2] at a b;simp at a b;subst a b;exact hV
  | succ j=>rw [hk2] at a;simp at a
theorem zal.at {α β:Type}{R:α→β→Prop}{hs:List α}{vs:List β}(h:zal R hs vs){k:Nat}{v:β}(hv:vs[k]? =some v):∃ x,hs[k]? =some x∧R x v:=by
 obtain ⟨hk,_⟩:=List.getElem?_eq_some_iff.1 hv
 have hk2:k<hs.length:=by rw [h.1];exact hk
 exact ⟨hs[k],List.getElem?_eq_getElem hk2,h.2 k _ _ (List.getElem?_eq_getElem hk2) hv⟩
structure Vh where
 code:Int
 h:Hd
def zba (x:Vh):List Value:=[.int .i64 x.code,.slice x.h.a x.h.n x.h.c]
theorem Zl (x:Vh):(zba x).length=2:=rfl
def zuK (I:Qu)(x:Vh)(v:Vt):Prop:=x.code=v.code∧Sl I 1 QP x.h.a x.h.n x.h.c v.ws
theorem zuK.mono {I I':Qu}{x:Vh}{v:Vt}(h:zuK I x v)(hI:HLe I I'):zuK I' x v:=⟨h.1,h.2.mono hI⟩
def zcX (I:Qu)(hs:List Vh)(vs:List Vt):Prop:=zal (zuK I) hs vs
theorem zcX.mono {I I':Qu}{hs:List Vh}{vs:List Vt}(h:zcX I hs vs)(hI:HLe I I'):zcX I' hs vs:=zal.imp h fun _ _ q=>q.mono hI
theorem zcX.snoc {I:Qu}{hs:List Vh}{vs:List Vt}(h:zcX I hs vs){x:Vh}{v:Vt}(hV:zuK I x v):zcX I (hs++[x]) (vs++[v]):=zal.snoc h hV
def SlV (I:Qu)(a:Option Addr)(n c:Nat)(vs:List Vt):Prop:=∃ hs,Sl I 2 zba a n c hs∧zcX I hs vs
theorem SlV.mono {I I':Qu}{a:Option Addr}{n c:Nat}{vs:List Vt}(h:SlV I a n c vs)(hI:HLe I I'):SlV I' a n c vs:=⟨_,h.choose_spec.1.mono hI,h.choose_spec.2.mono hI⟩
structure Eh where
 loc:Int
 lem:Int
 h:Hd
def zcI (x:Eh):List Value:=[.int .i64 x.loc,.int .i64 x.lem,.slice x.h.a x.h.n x.h.c]
theorem Zk (x:Eh):(zcI x).length=3:=rfl
def ztO (I:Qu)(x:Eh)(v:En):Prop:=x.loc=v.loc∧x.lem=v.lem∧SlV I x.h.a x.h.n x.h.c v.vs
theorem ztO.mono {I I':Qu}{x:Eh}{v:En}(h:ztO I x v)(hI:HLe I I'):ztO I' x v:=⟨h.1,h.2.1,h.2.2.mono hI⟩
def zc3 (I:Qu)(hs:List Eh)(vs:List En):Prop:=zal (ztO I) hs vs
theorem zc3.mono {I I':Qu}{hs:List Eh}{vs:List En}(h:zc3 I hs vs)(hI:HLe I I'):zc3 I' hs vs:=zal.imp h fun _ _ q=>q.mono hI
theorem zc3.snoc {I:Qu}{hs:List Eh}{vs:List En}(h:zc3 I hs vs){x:Eh}{v:En}(hV:ztO I x v):zc3 I (hs++[x]) (vs++[v]):=zal.snoc h hV
def zeS (I:Qu)(a:Option Addr)(n c:Nat)(vs:List En):Prop:=∃ hs,Sl I 3 zcI a n c hs∧zc3 I hs vs
theorem zeS.mono {I I':Qu}{a:Option Addr}{n c:Nat}{vs:List En}(h:zeS I a n c vs)(hI:HLe I I'):zeS I' a n c vs:=⟨_,h.choose_spec.1.mono hI,h.choose_spec.2.mono hI⟩
theorem zxi (xs:List Vh):Yq (xs.flatMap zba)=true:=Yk (fun _=>rfl) xs
theorem ztf (xs:List Eh):Yq (xs.flatMap zcI)=true:=Yk (fun _=>rfl) xs
end
end Go.Proofs.YtodakphagkommaaGreatDoor
