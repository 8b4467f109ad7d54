/- partiesWorld_holds, part H of the proof: what its theorems say holds without further conditions. -/
import Derived.ProofKit
import Derived.Deep.Slices
import Derived.Test.YtjblkbkmblkgoaaGreatRows
import Derived.Test.YtjblkbkmblkgoaaGreatPXG
namespace Go.Proofs.YtjblkbkmblkgoaaGreat
section
open Go Go.Kn Go.Proofs
section
variable {α:Type} {num:Nt→Int} {prt:Nt→α} {kind:Int} {chk:List α→Int} {d:α} {nf:α→Int}
theorem zg1 {m:List (Int×α)}{p:Int×α}{k:Int}:Zt (m++[p]) k=(Zt m k).or (if p.1=k then some p.2 else none):=by
 induction m with
 | nil=>simp [Zt]
 | cons q m ih=>
  rw [List.cons_append,Zt,Zt,ih]
  split<;>simp
theorem Wa {m:List (Int×α)}{k:Int}:k∈m.map (·.1)↔ ∃ v,Zt m k=some v:=by
 induction m with
 | nil=>simp [Zt]
 | cons q m ih=>
  rw [List.map_cons,List.mem_cons,ih,Zt]
  by_cases h:q.1=k
  ·
   simp [h]
  ·
   rw [if_neg h]
   constructor
   ·
    rintro (e | e)
    ·
     exact absurd e.symm h
    ·
     exact e
   ·
    exact .inr
theorem zss (xs:List Nt)(k:Int):∀ m:List (Int×α),Zt (xs.foldl (WR num prt kind) m) k=(Zt m k).or ((xs.find? fun x=>x.kind==kind&&num x==k).map prt):=by
 induction xs with
 | nil=>intro m;simp
 | cons x xs ih=>
  intro m
  rw [List.foldl_cons,ih,List.find?_cons]
  unfold WR
  cases hk:x.kind==kind
  ·
   simp
  ·
   by_cases hn:num x=k
   ·
    subst hn
    cases hg:Zt m (num x) with
    | none=>simp [zg1,hg]
    | some v=>simp [hg]
   ·
    rw [Bool.true_and]
    have e:(num x==k)=false:=by simpa using hn
    simp only [Bool.true_and,e]
    split
    ·
     rw [zg1,if_neg hn,Option.or_none]
    ·
     rfl
theorem zaC (xs:List Nt)(k:Int):Zt (ZY num prt kind xs) k=(xs.find? fun x=>x.kind==kind&&num x==k).map prt:=by
 unfold ZY
 rw [zss];rfl
theorem ziV (xs:List Nt):((ZY num prt kind xs).map (·.1)).Nodup:=by
 have key:∀ (ys:List Nt) (m:List (Int×α)),(m.map (·.1)).Nodup→((ys.foldl (WR num prt kind) m).map (·.1)).Nodup:=by
  intro ys
  induction ys with
  | nil=>intro m h;exact h
  | cons y ys ih=>
   intro m h
   rw [List.foldl_cons]
   refine ih _ ?_
   unfold WR
   split
   ·
    rename_i hc
    rw [List.map_append,List.nodup_append]
    refine ⟨h,by simp,fun a ha b hb=>?_⟩
    have hb':b=num y:=by simpa using hb
    subst hb'
    rintro rfl
    obtain ⟨v,hv⟩:=Wa.1 ha
    rw [hv] at hc;simp at hc
   ·
    exact h
 exact key xs [] List.nodup_nil
theorem zha (xs:List Nt):(KU ((ZY num prt kind xs).map (·.1))).Pairwise (· < ·):=by
 have hp:(KU ((ZY num prt kind xs).map (·.1))).Pairwise (fun a b=>decide (a≤b)=true):=List.pairwise_mergeSort (by intro a b c;simp;omega) (by intro a b;simp;omega) _
 have hn:(KU ((ZY num prt kind xs).map (·.1))).Nodup:=(List.mergeSort_perm _ _).nodup_iff.2 (ziV xs)
 refine (hp.and hn).imp fun {a b} h=>?_
 have h1:=h.1
 have h2:=h.2
 simp at h1
 omega
theorem zaH {xs:List Nt}{k:Int}:k∈KU ((ZY num prt kind xs).map (·.1))↔ ∃ x∈xs,x.kind=kind∧num x=k:=by
 rw [show k∈KU ((ZY num prt kind xs).map (·.1))↔k∈(ZY num prt kind xs).map (·.1) from (List.mergeSort_perm _ _).mem_iff,Wa,zaC]
 constructor
 ·
  rintro ⟨v,hv⟩
  cases hf:xs.find? fun x=>x.kind==kind&&num x==k with
  | none=>rw [hf] at hv;cases hv
  | some x=>
   have:=List.find?_some hf
   simp at this
   exact ⟨x,List.mem_of_find?_eq_some hf,this⟩
 ·
  rintro ⟨x,hx,h1,h2⟩
  cases hf:xs.find? fun x=>x.kind==kind&&num x==k with
  | none=>
   have:=List.find?_eq_none.1 hf x hx
   simp [h1,h2] at this
  | some y=>exact ⟨_,rfl⟩
theorem zaL {m:List (Int×α)}:∀ (q:List Int) (l:List α),(∀ k∈q,nf ((Zt m k).getD d)=k)→∃ r,q.foldl (zbW chk d m) l=l++r∧(r.map nf).Sublist q
 | [],l,_=>⟨[],by simp,by simp⟩
 | k::q,l,h=>by
  obtain ⟨r,h1,h2⟩:=zaL q (zbW chk d m l k) fun j hj=>h j (List.mem_cons_of_mem _ hj)
  rw [List.foldl_cons,h1]
  unfold zbW
  split
  ·
   exact ⟨(Zt m k).getD d::r,by simp,by rw [List.map_cons,h k (List.mem_cons_self ..)];exact h2.cons_cons _⟩
  ·
   exact ⟨r,rfl,h2.cons _⟩
def VH (nf:α→Int)(a:List α)(m:Int):Nat:=(a.takeWhile fun y=>decide (nf y<m)).length
theorem KT : ∀ {a : List α} {k : Nat} {m : Int}, k ≤ a.length → (∀ j y, j < k → a[j]? = some y → nf y < m) → (∀ y, a[k]? = some y → ¬ nf y < m) → k = VH nf a m
  | [], k, m, h, _, _ => by have : k = 0 := by simpa using h
                            subst this; rfl
  | y :: a, 0, m, _, _, h => by
    have := h y rfl
    simp [VH, this]
  | y :: a, k + 1, m, hl, h1, h2 => by
    have hy := h1 0 y kB rfl
    have := KT (a := a) (k := k) (m := m) (by simpa using hl) (fun j z hj hz => h1 (j + 1) z kB (by simpa using hz)) (fun z hz => h2 z (by simpa using hz))
    unfold VH
    rw [List.takeWhile_cons, if_pos (by simpa using hy), List.length_cons, this]; rfl
theorem zlS {xs:List Nt}(hnf:∀ x∈xs,nf (prt x)=num x){x:Nt}{i:Nat}(hx:xs[i]? =some x)(hk:x.kind=kind):∃ L r x0,xs.find? (fun y=>y.kind==kind&&num y==num x)=some x0∧
  Wo num prt kind chk d xs=(if chk (L++[prt x0])==0 then L++[prt x0] else L)++r∧(∀ y∈L,nf y<num x)∧(∀ y∈r,num x<nf y):=by
 have hxm:=List.mem_of_getElem? hx
 have hmem:num x∈KU ((ZY num prt kind xs).map (·.1)):=zaH.2 ⟨x,hxm,hk,rfl⟩
 have hsrt:=zha (num:=num) (prt:=prt) (kind:=kind) xs
 have hget:∀ k∈KU ((ZY num prt kind xs).map (·.1)),nf ((Zt (ZY num prt kind xs) k).getD d)=k:=by
  intro k hk
  obtain ⟨y,hy,h1,h2⟩:=zaH.1 hk
  rw [zaC]
  cases hf:xs.find? fun x=>x.kind==kind&&num x==k with
  | none=>have:=List.find?_eq_none.1 hf y hy;simp [h1,h2] at this
  | some z=>
   have h3:=List.find?_some hf
   simp at h3
   exact (hnf z (List.mem_of_find?_eq_some hf)).trans h3.2
 obtain ⟨p,q,e⟩:=List.append_of_mem hmem
 cases hf:xs.find? fun y=>y.kind==kind&&num y==num x with
 | none=>have:=List.find?_eq_none.1 hf x hxm;simp [hk] at this
 | some x0=>
  have hg:(Zt (ZY num prt kind xs) (num x)).getD d=prt x0:=by rw [zaC,hf];rfl
  rw [e] at hsrt hget
  obtain ⟨L,h1,h2⟩:=zaL (chk:=chk) p [] fun k hk=>hget k (List.mem_append_left _ hk)
  obtain ⟨r,h3,h4⟩:=zaL (chk:=chk) q (zbW chk d (ZY num prt kind xs) L (num x)) fun k hk=>hget k (List.mem_append_right _ (List.mem_cons_of_mem _ hk))
  rw [List.pairwise_append] at hsrt
  refine ⟨L,r,x0,rfl,?_,fun y hy=>?_,fun y hy=>?_⟩
  ·
   unfold Wo zfB
   rw [e,List.foldl_append,h1,List.foldl_cons,List.nil_append,h3]
   unfold zbW
   rw [hg]
  ·
   exact hsrt.2.2 _ (h2.subset (List.mem_map.2 ⟨y,hy,rfl⟩)) _ (List.mem_cons_self ..)
  ·
   exact (List.pairwise_cons.1 hsrt.2.1).1 _ (h4.subset (List.mem_map.2 ⟨y,hy,rfl⟩))
theorem zhC {L r:List α}{y:α}{m:Int}{ok:Bool}(hy:nf y=m)(h1:∀ z∈L,nf z<m)(h2:∀ z∈r,m<nf z):VH nf ((if ok then L++[y] else L)++r) m=L.length:=by
 refine (KT ?_ ?_ ?_).symm
 ·
  split<;>simp
 ·
  intro j z hj hz
  refine h1 z (List.mem_of_getElem? (i:=j) ?_)
  split at hz
  ·
   rw [List.getElem?_append_left kS,List.getElem?_append_left hj] at hz;exact hz
  ·
   rw [List.getElem?_append_left hj] at hz;exact hz
 ·
  intro z hz
  cases ok
  ·
   rw [if_neg kH,List.getElem?_append_right (Nat.le_refl _)] at hz
   have:=h2 z (List.mem_of_getElem? hz);omega
  ·
   simp at hz
   subst hz;omega
def zol (num:Nt→Int)(xs:List Nt)(i:Nat)(x:Nt):Bool:=(xs.take i).all fun m=>m.kind != x.kind||num m != num x
theorem zgV {xs:List Nt}{i:Nat}{x x0:Nt}(hx:xs[i]? =some x)(hf:xs.find? (fun y=>y.kind==x.kind&&num y==num x)=some x0):(zol num xs i x=true→x0=x)∧(zol num xs i x=false→∃ j,j<i∧xs[j]? =some x0):=by
 obtain ⟨hp,us,bs,e,hno⟩:=List.find?_eq_some_iff_append.1 hf
 simp at hp
 have h0:xs[us.length]? =some x0:=by rw [e];simp
 have hle:us.length≤i:=by
  rcases Nat.lt_or_ge i us.length with h | h
  ·
   have hm:x∈us:=by
    rw [e,List.getElem?_append_left h] at hx;exact List.mem_of_getElem? hx
   have:=hno x hm;simp at this
  ·
   exact h
 constructor
 ·
  intro h
  rcases Nat.lt_or_ge us.length i with h1 | h1
  ·
   have hm:x0∈xs.take i:=by
    refine List.mem_of_getElem? (i:=us.length) ?_
    rw [List.getElem?_take,if_pos h1,h0]
   have:=List.all_eq_true.1 h x0 hm
   simp [hp.1,hp.2] at this
  ·
   have:us.length=i:=kB
   rw [this,hx] at h0;exact (Option.some.inj h0).symm
 ·
  intro h
  rcases Nat.lt_or_ge us.length i with h1 | h1
  ·
   exact ⟨_,h1,h0⟩
  ·
   have h2:us.length=i:=kB
   exfalso
   rw [←Bool.not_eq_true] at h
   apply h
   refine List.all_eq_true.2 fun y hy=>?_
   have:xs.take i=us:=by rw [e,←h2];simp
   rw [this] at hy
   have:=hno y hy
   simp only [Bool.not_and,Bool.or_eq_true,Bool.not_eq_true',beq_eq_false_iff_ne,bne_iff_ne] at this ⊢
   exact this
def zuG (eqv:α→α→Bool):Option α→α→Bool
 | none,_=>false
 | some y,z=>eqv y z
theorem zoY {xs:List Nt}{eqv:α→α→Bool}(hnf:∀ x∈xs,nf (prt x)=num x)(hr:∀ y,eqv y y=true)(hne:∀ y z,eqv y z=true→nf y=nf z)
  (hdat:∀ (i j:Nat) (x y:Nt),j<i→xs[i]? =some x→xs[j]? =some y→x.kind=kind→y.kind=kind→eqv (prt y) (prt x)=false){x:Nt}{i:Nat}(hx:xs[i]? =some x)(hk:x.kind=kind){a:List α}(ha:a=Wo num prt kind chk d xs){b:Bool}
  (hb:b=zuG eqv a[VH nf a (num x)]? (prt x)):b=(zol num xs i x&&(chk (a.take (VH nf a (num x))++[prt x])==0)):=by
 obtain ⟨L,r,x0,hf,he,h1,h2⟩:=zlS (chk:=chk) (d:=d) hnf hx hk
 have hp:=List.find?_some hf
 simp at hp
 have hn0:nf (prt x0)=num x:=(hnf x0 (List.mem_of_find?_eq_some hf)).trans hp.2
 have hl:=zhC (ok:=chk (L++[prt x0])==0) hn0 h1 h2
 rw [←he,←ha] at hl
 rw [hl] at hb ⊢
 have ht:a.take L.length=L:=by
  rw [ha,he]
  split<;>simp
 rw [ht]
 have hfs:=zgV (num:=num) hx (by rw [hk];exact hf)
 have hxn:nf (prt x)=num x:=hnf x (List.mem_of_getElem? hx)
 have hnl:chk (L++[prt x0])≠0→b=false:=by
  intro hc
  have hc':(chk (L++[prt x0])==0)=false:=by simpa using hc
  have e:a[L.length]? =r[0]? :=by rw [ha,he,hc',if_neg kH,List.getElem?_append_right (Nat.le_refl _),Nat.sub_self]
  rw [e] at hb
  cases hr0:r[0]? with
  | none=>rw [hr0] at hb;exact hb
  | some z=>
   rw [hr0] at hb
   cases hz:eqv z (prt x) with
   | false=>rw [hb];exact hz
   | true=>
    have h3:=hne _ _ hz
    have h4:=h2 z (List.mem_of_getElem? hr0)
    omega
 have hyl:chk (L++[prt x0])=0→b=eqv (prt x0) (prt x):=by
  intro hc
  have e:a[L.length]? =some (prt x0):=by rw [ha,he,hc];simp
  rw [e] at hb;exact hb
 cases hq:zol num xs i x with
 | true=>
  obtain rfl:=hfs.1 hq
  by_cases hc:chk (L++[prt x0])=0
  ·
   rw [hyl hc,hr,hc];rfl
  ·
   rw [hnl hc];simp [hc]
 | false=>
  obtain ⟨j,hj,h0⟩:=hfs.2 hq
  rw [Bool.false_and]
  by_cases hc:chk (L++[prt x0])=0
  ·
   rw [hyl hc];exact hdat i j x x0 hj hx h0 hk hp.1
  ·
   exact hnl hc
theorem KI {xs:List Nt}(hnf:∀ x∈xs,nf (prt x)=num x):((Wo num prt kind chk d xs).map nf).Pairwise (· < ·)∧∀ k,k∈(Wo num prt kind chk d xs).map nf↔ ∃ i x,xs[i]? =some x∧x.kind=kind∧num x=k∧
  (zol num xs i x&&(chk ((Wo num prt kind chk d xs).take (VH nf (Wo num prt kind chk d xs) (num x))++[prt x])==0))=true:=by
 have hget:∀ k∈KU ((ZY num prt kind xs).map (·.1)),nf ((Zt (ZY num prt kind xs) k).getD d)=k:=by
  intro k hk
  obtain ⟨y,hy,h1,h2⟩:=zaH.1 hk
  rw [zaC]
  cases hf:xs.find? fun x=>x.kind==kind&&num x==k with
  | none=>have:=List.find?_eq_none.1 hf y hy;simp [h1,h2] at this
  | some z=>
   have h3:=List.find?_some hf
   simp at h3
   exact (hnf z (List.mem_of_find?_eq_some hf)).trans h3.2
 obtain ⟨r,h1,h2⟩:=zaL (chk:=chk) _ [] hget
 rw [List.nil_append] at h1
 have h3:Wo num prt kind chk d xs=r:=h1
 refine ⟨by rw [h3];exact (zha xs).sublist h2,fun k=>?_⟩
 have cut:∀ {i:Nat} {x:Nt},xs[i]? =some x→x.kind=kind→zol num xs i x=true→((chk ((Wo num prt kind chk d xs).take (VH nf (Wo num prt kind chk d xs) (num x))++[prt x])==0)=true↔num x∈(Wo num prt kind chk d xs).map nf):=by
  intro i x hx hk hf1
  obtain ⟨L,r,x0,hf,he,h1,h2⟩:=zlS (chk:=chk) (d:=d) hnf hx hk
  obtain rfl:=(zgV (num:=num) hx (by rw [hk];exact hf)).1 hf1
  have hxn:nf (prt x0)=num x0:=hnf x0 (List.mem_of_getElem? hx)
  have hl:=zhC (ok:=chk (L++[prt x0])==0) hxn h1 h2
  rw [←he] at hl
  have ht:(Wo num prt kind chk d xs).take L.length=L:=by
   rw [he]
   split<;>simp
  rw [hl,ht]
  constructor
  ·
   intro hc
   rw [he,if_pos hc]
   exact List.mem_map.2 ⟨prt x0,by simp,hxn⟩
  ·
   intro hm
   cases hc:chk (L++[prt x0])==0 with
   | true=>rfl
   | false=>
    rw [he,hc,if_neg kH] at hm
    obtain ⟨y,hy,e⟩:=List.mem_map.1 hm
    rcases List.mem_append.1 hy with hy | hy
    ·
     have:=h1 y hy;omega
    ·
     have:=h2 y hy;omega
 constructor
 ·
  intro hm
  have hk:=h2.subset (h3 ▸ hm)
  obtain ⟨y,hy,hy1,hy2⟩:=zaH.1 hk
  cases hf:xs.find? fun x=>x.kind==kind&&num x==k with
  | none=>have:=List.find?_eq_none.1 hf y hy;simp [hy1,hy2] at this
  | some x=>
   obtain ⟨hp,us,bs,e,hno⟩:=List.find?_eq_some_iff_append.1 hf
   simp at hp
   have h0:xs[us.length]? =some x:=by rw [e];simp
   have hfs:zol num xs us.length x=true:=by
    refine List.all_eq_true.2 fun z hz=>?_
    have:xs.take us.length=us:=by rw [e];simp
    rw [this] at hz
    have:=hno z hz
    simp only [Bool.not_and,Bool.or_eq_true,Bool.not_eq_true',beq_eq_false_iff_ne,bne_iff_ne] at this ⊢
    rw [hp.1,hp.2];exact this
   refine ⟨_,x,h0,hp.1,hp.2,?_⟩
   rw [hfs,Bool.true_and]
   exact (cut h0 hp.1 hfs).2 (by rw [hp.2];exact hm)
 ·
  rintro ⟨i,x,hx,hk,rfl,hc⟩
  rw [Bool.and_eq_true] at hc
  exact (cut hx hk hc.1).1 hc.2
end
end
section
open Go Go.Kn Go.Proofs
def WY (x:Nt):Int:=if x.kind=1 then x.lm.no else if x.kind=2 then x.pt.id else if x.kind=3 then x.ls.no else x.rt.no
def zgo (xs:List Nt)(i:Nat)(x:Nt):Bool:=(xs.take i).all fun m=>m.kind != x.kind||WY m != WY x
def zpl (xs:List Nt)(x:Nt):Bool:=zcX ((wLm xs).take (VH (·.no) (wLm xs) x.lm.no)++[x.lm])==0
def zn3 (xs:List Nt)(x:Nt):Bool:=zam ((wPt xs).take (VH (·.id) (wPt xs) x.pt.id)++[x.pt])==0
def zoG (xs:List Nt)(x:Nt):Bool:=L.chk ((wLs xs).take (VH (·.no) (wLs xs) x.ls.no)++[x.ls])==0
def zp5 (xs:List Nt)(x:Nt):Bool:=S.rCheck ((wRt xs).take (VH (·.no) (wRt xs) x.rt.no)++[x.rt])==0
def zhQ (xs:List Nt)(x:Nt):Bool:=if x.kind=1 then zpl xs x else if x.kind=2 then zn3 xs x else if x.kind=3 then zoG xs x else zp5 xs x
def tkF (xs:List Nt)(i:Nat)(x:Nt):Bool:=zgo xs i x&&zhQ xs x
theorem JX {num:Nt→Int}{xs:List Nt}{i:Nat}{x:Nt}{k:Int}(hk:x.kind=k)(h:∀ y,y.kind=k→WY y=num y):zgo xs i x=zol num xs i x:=by
 unfold zgo zol
 refine congrArg (fun f=>(xs.take i).all f) (funext fun m=>?_)
 by_cases e:m.kind=x.kind
 ·
  rw [h x hk,h m (e.trans hk)]
 ·
  have:(m.kind != x.kind)=true:=by simpa using e
  rw [this];rfl
theorem ziX (y:Nt)(h:y.kind=1):WY y=y.lm.no:=by unfold WY;rw [if_pos h]
theorem zir (y:Nt)(h:y.kind=2):WY y=y.pt.id:=by unfold WY;rw [if_neg kB,if_pos h]
theorem zil (y:Nt)(h:y.kind=3):WY y=y.ls.no:=by unfold WY;rw [if_neg kB,if_neg kB,if_pos h]
theorem zmT (y:Nt)(h:y.kind=4):WY y=y.rt.no:=by unfold WY;rw [if_neg kB,if_neg kB,if_neg kB]
theorem KD {x:Nt}(h:QM x=true):(x.kind=1∨z1 x=true)∧(x.kind=2∨z2 x=true)∧(x.kind=3∨z3 x=true)∧(x.kind=4∨z4 x=true):=by
 unfold QM Xo at h
 simp only [Bool.and_eq_true,Bool.or_eq_true,beq_iff_eq] at h
 exact ⟨h.2.1.1.1,h.2.1.1.2,h.2.1.2,h.2.2⟩
theorem zjA {x:Nt}(h:QM x=true):x.kind=1∨x.kind=2∨x.kind=3∨x.kind=4:=by
 unfold QM Wm at h
 rw [Bool.and_eq_true] at h
 by_cases h1:x.kind=1
 ·
  exact .inl h1
 by_cases h2:x.kind=2
 ·
  exact .inr (.inl h2)
 by_cases h3:x.kind=3
 ·
  exact .inr (.inr (.inl h3))
 by_cases h4:x.kind=4
 ·
  exact .inr (.inr (.inr h4))
 rw [if_neg h1,if_neg h2,if_neg h3,if_neg h4] at h
 exact absurd h.1 kD
theorem zob (p:Pt):smP p p=true:=by
 have e:smC p p=false:=by unfold smC;rw [zeh];simp
 rw [ziM e];simp
theorem zwU {p q:Pt}(h:smP p q=true):p.id=q.id:=by
 unfold smP smC at h
 simp only [Bool.and_eq_true,Bool.not_eq_true',Bool.or_eq_false_iff,bne_eq_false_iff_eq] at h
 exact h.1.1.1.1.1.1
theorem zsj {I:Qu}{x y:Nt}(hx:Nd I x.pt)(hy:Nd I y.pt)(h1:z2 x=true)(h2:z2 y=true):smP x.pt y.pt=true:=by
 have l1:x.pt.needs.length=x.pt.n:=hx.len
 have l2:y.pt.needs.length=y.pt.n:=hy.len
 unfold z2 at h1 h2
 simp only [Bool.and_eq_true,beq_iff_eq,Wc] at h1 h2
 have n1:x.pt.needs=[]:=List.length_eq_zero_iff.1 kB
 have n2:y.pt.needs=[]:=List.length_eq_zero_iff.1 kB
 have e:smC x.pt y.pt=false:=by
  unfold smC
  obtain ⟨⟨⟨⟨⟨a1,a2⟩,a3⟩,a4⟩,a5⟩,a6⟩:=h1
  obtain ⟨⟨⟨⟨⟨b1,b2⟩,b3⟩,b4⟩,b5⟩,b6⟩:=h2
  rw [a1,a2,a3,a4,a5,a6,b1,b2,b3,b4,b5,b6,zeh];simp
 rw [ziM e,n1,n2];simp
theorem zo6 {I:Qu}{xs:List Nt}(hN:∀ x∈xs,Nd I x.pt)(hv:ZL xs=true){i j:Nat}{x y:Nt}(hij:j<i)(hx:xs[i]? =some x)(hy:xs[j]? =some y):smN y x=false:=by
 cases h:smN y x with
 | false=>rfl
 | true=>
  have h1:=(zjk (hN y (List.mem_of_getElem? hy)) (hN x (List.mem_of_getElem? hx))).1 h
  have h2:=(Yc hv).1 j i y x hij hy hx
  rw [←zaX,h1,UN] at h2;omega
section
variable {I:Qu} {xs:List Nt} (hN:∀ x∈xs,Nd I x.pt) (hv:ZL xs=true) {i:Nat} {x:Nt} (hx:xs[i]? =some x) {b:Bool}
include hN hv hx
theorem zxA (hk:x.kind=1)(hb:b=zuG zdN (wLm xs)[VH (·.no) (wLm xs) x.lm.no]? x.lm):b=(zgo xs i x&&zpl xs x):=by
 rw [JX hk ziX]
 refine zoY (a:=wLm xs) (num:=fun x=>x.lm.no) (prt:=fun x=>x.lm) (nf:=fun y=>y.no) (eqv:=zdN) (kind:=1) (fun _ _=>rfl) (fun y=>Vh.2 rfl) (fun y z h=>by rw [Vh.1 h]) (fun i j x y hij hx hy kx ky=>?_) hx hk rfl hb
 have h:=zo6 hN hv hij hx hy
 have fx:=KD ((Yc hv).2.1 x (List.mem_of_getElem? hx));have fy:=KD ((Yc hv).2.1 y (List.mem_of_getElem? hy))
 unfold smN at h
 have e2:=zsj (hN y (List.mem_of_getElem? hy)) (hN x (List.mem_of_getElem? hx)) (fy.2.1.resolve_left kB) (fx.2.1.resolve_left kB)
 have e3:L.lsEq y.ls x.ls=true:=L.lsEq_iff.2 ((L.lsEq_iff.1 (fy.2.2.1.resolve_left kB)).trans (L.lsEq_iff.1 (fx.2.2.1.resolve_left kB)).symm)
 have e4:S.rtEq y.rt x.rt=true:=S.rtEq_iff.2 ((S.rtEq_iff.1 (fy.2.2.2.resolve_left kB)).trans (S.rtEq_iff.1 (fx.2.2.2.resolve_left kB)).symm)
 rw [kx,ky,e2,e3,e4] at h;simpa using h
theorem zwS (hk:x.kind=2)(hb:b=zuG smP (wPt xs)[VH (·.id) (wPt xs) x.pt.id]? x.pt):b=(zgo xs i x&&zn3 xs x):=by
 rw [JX hk zir]
 refine zoY (a:=wPt xs) (num:=fun x=>x.pt.id) (prt:=fun x=>x.pt) (nf:=fun y=>y.id) (eqv:=smP) (kind:=2) (fun _ _=>rfl) zob (fun y z h=>zwU h) (fun i j x y hij hx hy kx ky=>?_) hx hk rfl hb
 have h:=zo6 hN hv hij hx hy
 have fx:=KD ((Yc hv).2.1 x (List.mem_of_getElem? hx));have fy:=KD ((Yc hv).2.1 y (List.mem_of_getElem? hy))
 unfold smN at h
 have e1:zdN y.lm x.lm=true:=Vh.2 ((Vh.1 (fy.1.resolve_left kB)).trans (Vh.1 (fx.1.resolve_left kB)).symm)
 have e3:L.lsEq y.ls x.ls=true:=L.lsEq_iff.2 ((L.lsEq_iff.1 (fy.2.2.1.resolve_left kB)).trans (L.lsEq_iff.1 (fx.2.2.1.resolve_left kB)).symm)
 have e4:S.rtEq y.rt x.rt=true:=S.rtEq_iff.2 ((S.rtEq_iff.1 (fy.2.2.2.resolve_left kB)).trans (S.rtEq_iff.1 (fx.2.2.2.resolve_left kB)).symm)
 rw [kx,ky,e1,e3,e4] at h;simpa using h
theorem zwn (hk:x.kind=3)(hb:b=zuG L.lsEq (wLs xs)[VH (·.no) (wLs xs) x.ls.no]? x.ls):b=(zgo xs i x&&zoG xs x):=by
 rw [JX hk zil]
 refine zoY (a:=wLs xs) (num:=fun x=>x.ls.no) (prt:=fun x=>x.ls) (nf:=fun y=>y.no) (eqv:=L.lsEq) (kind:=3) (fun _ _=>rfl) (fun y=>L.lsEq_iff.2 rfl) (fun y z h=>by rw [L.lsEq_iff.1 h]) (fun i j x y hij hx hy kx ky=>?_) hx hk rfl hb
 have h:=zo6 hN hv hij hx hy
 have fx:=KD ((Yc hv).2.1 x (List.mem_of_getElem? hx));have fy:=KD ((Yc hv).2.1 y (List.mem_of_getElem? hy))
 unfold smN at h
 have e1:zdN y.lm x.lm=true:=Vh.2 ((Vh.1 (fy.1.resolve_left kB)).trans (Vh.1 (fx.1.resolve_left kB)).symm)
 have e2:=zsj (hN y (List.mem_of_getElem? hy)) (hN x (List.mem_of_getElem? hx)) (fy.2.1.resolve_left kB) (fx.2.1.resolve_left kB)
 have e4:S.rtEq y.rt x.rt=true:=S.rtEq_iff.2 ((S.rtEq_iff.1 (fy.2.2.2.resolve_left kB)).trans (S.rtEq_iff.1 (fx.2.2.2.resolve_left kB)).symm)
 rw [kx,ky,e1,e2,e4] at h;simpa using h
theorem zvX (hk:x.kind=4)(hb:b=zuG S.rtEq (wRt xs)[VH (·.no) (wRt xs) x.rt.no]? x.rt):b=(zgo xs i x&&zp5 xs x):=by
 rw [JX hk zmT]
 refine zoY (a:=wRt xs) (num:=fun x=>x.rt.no) (prt:=fun x=>x.rt) (nf:=fun y=>y.no) (eqv:=S.rtEq) (kind:=4) (fun _ _=>rfl) (fun y=>S.rtEq_iff.2 rfl) (fun y z h=>by rw [S.rtEq_iff.1 h]) (fun i j x y hij hx hy kx ky=>?_) hx hk rfl hb
 have h:=zo6 hN hv hij hx hy
 have fx:=KD ((Yc hv).2.1 x (List.mem_of_getElem? hx));have fy:=KD ((Yc hv).2.1 y (List.mem_of_getElem? hy))
 unfold smN at h
 have e1:zdN y.lm x.lm=true:=Vh.2 ((Vh.1 (fy.1.resolve_left kB)).trans (Vh.1 (fx.1.resolve_left kB)).symm)
 have e2:=zsj (hN y (List.mem_of_getElem? hy)) (hN x (List.mem_of_getElem? hx)) (fy.2.1.resolve_left kB) (fx.2.1.resolve_left kB)
 have e3:L.lsEq y.ls x.ls=true:=L.lsEq_iff.2 ((L.lsEq_iff.1 (fy.2.2.1.resolve_left kB)).trans (L.lsEq_iff.1 (fx.2.2.1.resolve_left kB)).symm)
 rw [kx,ky,e1,e2,e3] at h;simpa using h
end
def znp (xs:List Nt)(i:Nat):Nat:=((List.range i).filter fun j=>match xs[j]? with | none=>false | some x=>tkF xs j x).length
theorem zeu {xs:List Nt}{i:Nat}{x:Nt}(hx:xs[i]? =some x):znp xs (i+1)=znp xs i+if tkF xs i x then 1 else 0:=by
 unfold znp
 rw [List.range_succ,List.filter_append,List.length_append]
 simp only [List.filter_cons,List.filter_nil,hx]
 split<;>rfl
theorem zr2 (xs:List Nt)(i:Nat):znp xs i≤i:=by
 unfold znp
 exact Nat.le_trans (List.length_filter_le ..) kH
def zgu (xs:List Nt):List (Int×Int):=(((wLm xs).map fun y=>((1:Int),y.no))++((wLs xs).map fun y=>((3:Int),y.no)))++(((wPt xs).map fun y=>((2:Int),y.id))++((wRt xs).map fun y=>((4:Int),y.no)))
theorem U3 {α:Type}{l:List α}{f:α→Int}{k:Int}(h:(l.map f).Pairwise (· < ·)):(l.map fun y=>(k,f y)).Nodup:=by
 have h2:=List.pairwise_map.1 h
 refine List.pairwise_map.2 (h2.imp fun {a b} h e=>?_)
 have:=congrArg Prod.snd e
 dsimp only at this;omega
theorem Km {α β:Type}{l:List α}{m:List β}{f:α→Int}{g:β→Int}{k j:Int}(h:k≠j):∀ a∈l.map (fun y=>(k,f y)),∀ b∈m.map (fun y=>(j,g y)),a≠b:=by
 intro a ha b hb e
 obtain ⟨_,_,rfl⟩:=List.mem_map.1 ha
 obtain ⟨_,_,rfl⟩:=List.mem_map.1 hb
 exact h (congrArg Prod.fst e)
theorem zaV {α:Type}{l:List α}{f:α→Int}{k q:Int}{n:Int}:(q,n)∈(l.map fun y=>(k,f y))↔q=k∧n∈l.map f:=by
 rw [List.mem_map,List.mem_map]
 constructor
 ·
  rintro ⟨y,hy,e⟩;cases e;exact ⟨rfl,y,hy,rfl⟩
 ·
  rintro ⟨rfl,y,hy,rfl⟩;exact ⟨y,hy,rfl⟩
theorem zua {xs:List Nt}{i j:Nat}{x y:Nt}(hx:xs[i]? =some x)(hy:xs[j]? =some y)(h1:zgo xs i x=true)(h2:zgo xs j y=true)(hk:x.kind=y.kind)(hn:WY x=WY y):i=j:=by
 have key:∀ {i j:Nat} {x y:Nt},xs[i]? =some x→xs[j]? =some y→zgo xs i x=true→x.kind=y.kind→WY x=WY y→¬j<i:=by
  intro i j x y hx hy h1 hk hn hlt
  have hm:y∈xs.take i:=List.mem_of_getElem? (i:=j) (by rw [List.getElem?_take,if_pos hlt,hy])
  have:=List.all_eq_true.1 h1 y hm
  simp [hk,hn] at this
 have a:=key hx hy h1 hk hn
 have b:=key hy hx h2 hk.symm hn.symm
 omega
theorem zpU {xs:List Nt}{i:Nat}{x:Nt}(hk:x.kind=1):tkF xs i x=(zgo xs i x&&zpl xs x):=by unfold tkF zhQ;rw [if_pos hk]
theorem zpA {xs:List Nt}{i:Nat}{x:Nt}(hk:x.kind=2):tkF xs i x=(zgo xs i x&&zn3 xs x):=by unfold tkF zhQ;rw [if_neg kB,if_pos hk]
theorem znx {xs:List Nt}{i:Nat}{x:Nt}(hk:x.kind=3):tkF xs i x=(zgo xs i x&&zoG xs x):=by unfold tkF zhQ;rw [if_neg kB,if_neg kB,if_pos hk]
theorem znE {xs:List Nt}{i:Nat}{x:Nt}(hk:x.kind=4):tkF xs i x=(zgo xs i x&&zp5 xs x):=by unfold tkF zhQ;rw [if_neg kB,if_neg kB,if_neg kB]
theorem zmO {xs:List Nt}{q n:Int}:(q,n)∈zgu xs↔(q=1∨q=2∨q=3∨q=4)∧∃ i x,xs[i]? =some x∧x.kind=q∧WY x=n∧tkF xs i x=true:=by
 have h1:=(KI (num:=fun x=>x.lm.no) (prt:=fun x=>x.lm) (nf:=fun y=>y.no) (kind:=1) (chk:=zcX) (d:=Vk) (xs:=xs) (fun _ _=>rfl)).2 n
 have h2:=(KI (num:=fun x=>x.pt.id) (prt:=fun x=>x.pt) (nf:=fun y=>y.id) (kind:=2) (chk:=zam) (d:=V5) (xs:=xs) (fun _ _=>rfl)).2 n
 have h3:=(KI (num:=fun x=>x.ls.no) (prt:=fun x=>x.ls) (nf:=fun y=>y.no) (kind:=3) (chk:=L.chk) (d:=L.zeroL) (xs:=xs) (fun _ _=>rfl)).2 n
 have h4:=(KI (num:=fun x=>x.rt.no) (prt:=fun x=>x.rt) (nf:=fun y=>y.no) (kind:=4) (chk:=S.rCheck) (d:=S.zeroR) (xs:=xs) (fun _ _=>rfl)).2 n
 unfold zgu
 rw [List.mem_append,List.mem_append,List.mem_append,zaV,zaV,zaV,zaV]
 constructor
 ·
  rintro ((⟨rfl,h⟩ | ⟨rfl,h⟩) | ⟨rfl,h⟩ | ⟨rfl,h⟩)
  ·
   obtain ⟨i,x,hx,hk,hn,ht⟩:=h1.1 h
   exact ⟨kB,i,x,hx,hk,(ziX x hk).trans hn,by rw [zpU hk,JX hk ziX];exact ht⟩
  ·
   obtain ⟨i,x,hx,hk,hn,ht⟩:=h3.1 h
   exact ⟨kB,i,x,hx,hk,(zil x hk).trans hn,by rw [znx hk,JX hk zil];exact ht⟩
  ·
   obtain ⟨i,x,hx,hk,hn,ht⟩:=h2.1 h
   exact ⟨kB,i,x,hx,hk,(zir x hk).trans hn,by rw [zpA hk,JX hk zir];exact ht⟩
  ·
   obtain ⟨i,x,hx,hk,hn,ht⟩:=h4.1 h
   exact ⟨kB,i,x,hx,hk,(zmT x hk).trans hn,by rw [znE hk,JX hk zmT];exact ht⟩
 ·
  rintro ⟨rfl | rfl | rfl | rfl,i,x,hx,hk,hn,ht⟩
  ·
   exact .inl (.inl ⟨rfl,h1.2 ⟨i,x,hx,hk,(ziX x hk).symm.trans hn,by rw [zpU hk,JX hk ziX] at ht;exact ht⟩⟩)
  ·
   exact .inr (.inl ⟨rfl,h2.2 ⟨i,x,hx,hk,(zir x hk).symm.trans hn,by rw [zpA hk,JX hk zir] at ht;exact ht⟩⟩)
  ·
   exact .inl (.inr ⟨rfl,h3.2 ⟨i,x,hx,hk,(zil x hk).symm.trans hn,by rw [znx hk,JX hk zil] at ht;exact ht⟩⟩)
  ·
   exact .inr (.inr ⟨rfl,h4.2 ⟨i,x,hx,hk,(zmT x hk).symm.trans hn,by rw [znE hk,JX hk zmT] at ht;exact ht⟩⟩)
theorem zfR (xs:List Nt):(zgu xs).Nodup:=by
 unfold zgu
 have n1:=U3 (k:=1) (KI (num:=fun x=>x.lm.no) (prt:=fun x=>x.lm) (nf:=fun y=>y.no) (kind:=1) (chk:=zcX) (d:=Vk) (xs:=xs) (fun _ _=>rfl)).1
 have n2:=U3 (k:=2) (KI (num:=fun x=>x.pt.id) (prt:=fun x=>x.pt) (nf:=fun y=>y.id) (kind:=2) (chk:=zam) (d:=V5) (xs:=xs) (fun _ _=>rfl)).1
 have n3:=U3 (k:=3) (KI (num:=fun x=>x.ls.no) (prt:=fun x=>x.ls) (nf:=fun y=>y.no) (kind:=3) (chk:=L.chk) (d:=L.zeroL) (xs:=xs) (fun _ _=>rfl)).1
 have n4:=U3 (k:=4) (KI (num:=fun x=>x.rt.no) (prt:=fun x=>x.rt) (nf:=fun y=>y.no) (kind:=4) (chk:=S.rCheck) (d:=S.zeroR) (xs:=xs) (fun _ _=>rfl)).1
 rw [List.nodup_append,List.nodup_append,List.nodup_append]
 refine ⟨⟨n1,n3,Km kD⟩,⟨n2,n4,Km kD⟩,fun a ha b hb=>?_⟩
 rcases List.mem_append.1 ha with ha | ha<;>rcases List.mem_append.1 hb with hb | hb
 ·
  exact Km kD a ha b hb
 ·
  exact Km kD a ha b hb
 ·
  exact Km kD a ha b hb
 ·
  exact Km kD a ha b hb
theorem zn1 {xs:List Nt}(hv:ZL xs=true):znp xs xs.length=(wLm xs).length+(wLs xs).length+(wPt xs).length+(wRt xs).length:=by
 have hl:(zgu xs).length=(wLm xs).length+(wLs xs).length+(wPt xs).length+(wRt xs).length:=by
  unfold zgu
  simp only [List.length_append,List.length_map];omega
 rw [←hl]
 have at_:∀ j,j∈(List.range xs.length).filter (fun j=>match xs[j]? with | none=>false | some x=>tkF xs j x)↔ ∃ x,xs[j]? =some x∧tkF xs j x=true:=by
  intro j
  rw [List.mem_filter,List.mem_range]
  constructor
  ·
   rintro ⟨h,h2⟩
   rw [List.getElem?_eq_getElem h] at h2 ⊢
   exact ⟨_,rfl,h2⟩
  ·
   rintro ⟨x,hx,h⟩
   exact ⟨(List.getElem?_eq_some_iff.1 hx).1,by rw [hx];exact h⟩
 have hp:(((List.range xs.length).filter (fun j=>match xs[j]? with | none=>false | some x=>tkF xs j x)).map fun j=>(((xs[j]?).getD zcA).kind,WY ((xs[j]?).getD zcA))).Perm (zgu xs):=by
  refine (List.perm_ext_iff_of_nodup ?_ (zfR xs)).2 fun p=>?_
  ·
   refine List.pairwise_map.2 ((List.Pairwise.filter _ List.nodup_range).imp_of_mem fun {a b} ha hb hne e=>?_)
   obtain ⟨x,hx,h1⟩:=(at_ a).1 ha
   obtain ⟨y,hy,h2⟩:=(at_ b).1 hb
   rw [hx,hy] at e
   unfold tkF at h1 h2
   rw [Bool.and_eq_true] at h1 h2
   exact hne (zua hx hy h1.1 h2.1 (congrArg Prod.fst e) (congrArg Prod.snd e))
  ·
   obtain ⟨q,n⟩:=p
   rw [zmO,List.mem_map]
   constructor
   ·
    rintro ⟨j,hj,e⟩
    obtain ⟨x,hx,ht⟩:=(at_ j).1 hj
    rw [hx] at e
    cases e
    exact ⟨zjA ((Yc hv).2.1 x (List.mem_of_getElem? hx)),j,x,hx,rfl,rfl,ht⟩
   ·
    rintro ⟨_,i,x,hx,rfl,rfl,ht⟩
    exact ⟨i,(at_ i).2 ⟨x,hx,ht⟩,by rw [hx];rfl⟩
 rw [←hp.length_eq,List.length_map];rfl
end
section
open Go Go.Kn Go.Proofs
section
variable {α:Type} {num:Nt→Int} {prt:Nt→α} {kind:Int} {chk:List α→Int} {d:α}
theorem zaU (h:chk []=0)(xs:List Nt):chk (Wo num prt kind chk d xs)=0:=by
 have key:∀ (ns:List Int) (m:List (Int×α)) (l:List α),chk l=0→chk (ns.foldl (zbW chk d m) l)=0:=by
  intro ns
  induction ns with
  | nil=>intro m l h;exact h
  | cons k ns ih=>
   intro m l h
   rw [List.foldl_cons]
   refine ih _ _ ?_
   unfold zbW
   split
   ·
    rename_i hc;simpa using hc
   ·
    exact h
 exact key _ _ _ h
end
theorem zyr (xs:List Nt):zcX (wLm xs)=0:=zaU rfl xs
theorem zyS (xs:List Nt):L.chk (wLs xs)=0:=zaU rfl xs
theorem zyq (xs:List Nt):zam (wPt xs)=0:=zaU rfl xs
theorem zyQ (xs:List Nt):S.rCheck (wRt xs)=0:=zaU rfl xs
theorem zaS {α:Type}{a:List α}{k:Nat}{y:α}{P:α→Prop}(h:∀ j z,j<k→a[j]? =some z→P z)(hy:a[k]? =some y)(hp:P y):∀ j z,j<k+1→a[j]? =some z→P z:=fun j z hj hz=>by
 rcases Nat.lt_or_ge j k with h1 | h1
 ·
  exact h j z h1 hz
 ·
  obtain rfl:j=k:=kB
  rw [hy] at hz;cases hz;exact hp
theorem zds {xs:List Nt}{i j:Nat}{x y:Nt}{fb:Bool}(hy:(xs.take i)[j]? =some y)(h:fb=((xs.take i).take j).all fun m=>m.kind != x.kind||WY m != WY x):
  (((xs.take i).take (j+1)).all fun m=>m.kind != x.kind||WY m != WY x)=(fb&&(y.kind != x.kind||WY y != WY x)):=by
 rw [Zd hy,List.all_append,←h];simp
theorem zon {xs:List Nt}{i:Nat}{x:Nt}{fb:Bool}(hi:i≤xs.length)(h:fb=((xs.take i).take i).all fun m=>m.kind != x.kind||WY m != WY x):fb=zgo xs i x:=by
 rw [h,List.take_take,Nat.min_self];rfl
theorem zrM {xs:List Nt}{x:Nt}{k:Nat}(hk:x.kind=1)(h:VH (·.no) (wLm xs) x.lm.no=k):(zcX ((wLm xs).take k++[x.lm])==0)=zhQ xs x:=by unfold zhQ;rw [if_pos hk];unfold zpl;rw [h]
theorem zrK {xs:List Nt}{x:Nt}{k:Nat}(hk:x.kind=2)(h:VH (·.id) (wPt xs) x.pt.id=k):(zam ((wPt xs).take k++[x.pt])==0)=zhQ xs x:=by unfold zhQ;rw [if_neg kB,if_pos hk];unfold zn3;rw [h]
theorem zsq {xs:List Nt}{x:Nt}{k:Nat}(hk:x.kind=3)(h:VH (·.no) (wLs xs) x.ls.no=k):(L.chk ((wLs xs).take k++[x.ls])==0)=zhQ xs x:=by unfold zhQ;rw [if_neg kB,if_neg kB,if_pos hk];unfold zoG;rw [h]
theorem zsI {xs:List Nt}{x:Nt}{k:Nat}(hk:x.kind=4)(h:VH (·.no) (wRt xs) x.rt.no=k):(S.rCheck ((wRt xs).take k++[x.rt])==0)=zhQ xs x:=by unfold zhQ;rw [if_neg kB,if_neg kB,if_neg kB];unfold zp5;rw [h]
def zjp:List Pt→List Pt→Bool
 | [],[]=>true
 | x::xs,y::ys=>smP x y&&zjp xs ys
 | _,_=>false
theorem zg0:∀ {xs ys:List Pt},xs.length≠ys.length→zjp xs ys=false
 | [],[],h=>absurd rfl h
 | [],_::_,_=>rfl
 | _::_,[],_=>rfl
 | x::xs,y::ys,h=>by simp only [zjp,zg0 (xs:=xs) (ys:=ys) (by simpa using h),Bool.and_false]
theorem zna:∀ {xs ys:List Pt} {k:Nat} {x y:Pt},xs[k]? =some x→ys[k]? =some y→smP x y=false→zjp xs ys=false
 | [],_,_,_,_,h,_,_=>by simp at h
 | _::_,[],_,_,_,_,h,_=>by simp at h
 | a::xs,b::ys,0,x,y,hx,hy,h=>by cases hx;cases hy;simp [zjp,h]
 | a::xs,b::ys,k+1,x,y,hx,hy,h=>by
  have:=zna (xs:=xs) (ys:=ys) (k:=k) (by simpa using hx) (by simpa using hy) h
  simp [zjp,this]
theorem zh1:∀ {xs ys:List Pt},xs.length=ys.length→(∀ (j:Nat) (x y:Pt),j<xs.length→xs[j]? =some x→ys[j]? =some y→smP x y=true)→zjp xs ys=true
 | [],[],_,_=>rfl
 | [],_::_,h,_=>by simp at h
 | _::_,[],h,_=>by simp at h
 | x::xs,y::ys,hl,h=>by
  rw [zjp,h 0 x y kH rfl rfl,zh1 (by simpa using hl) (fun j u v hj hu hv=>h (j+1) u v (by simpa using hj) (by simpa using hu) (by simpa using hv))];rfl
theorem zm2 {xs ys:List Pt}{k:Nat}{x y:Pt}(hx:xs[k]? =some x)(hy:ys[k]? =some y)(h:∀ (j:Nat) (u v:Pt),j<k→xs[j]? =some u→ys[j]? =some v→smP u v=true)(e:smP x y=true):∀ (j:Nat) (u v:Pt),j<k+1→xs[j]? =some u→ys[j]? =some v→smP u v=true:=fun j u v hj hu hv=>by
 rcases Nat.lt_or_ge j k with h1 | h1
 ·
  exact h j u v h1 hu hv
 ·
  have:j=k:=kB
  subst this;rw [hx] at hu;rw [hy] at hv;cases hu;cases hv;exact e
theorem znO {α:Type}{xs:List α}{k:Nat}{x:α}(h:xs[k]? =some x):(xs.take (k+1)).drop k=[x]:=by
 rw [Zd h,List.drop_append_of_le_length (by have:=(List.getElem?_eq_some_iff.1 h).1;rw [List.length_take];omega),List.drop_of_length_le kO]
 rfl
end
end Go.Proofs.YtjblkbkmblkgoaaGreat
namespace Go.Kn
section
open Go
section
variable {C:Cx} {S:GS} {E:Env} {I:Qu} {loc:Loc} {dst:Option Tmp} {ty:TypeId} {pos:String} {af:Array Edge} {gd:Option (Nat×Bool)} {x y z:Operand}
theorem ziH {t e size n c:Nat}{av:Option Addr}{k k':IntKind}{i q:Int}(hx:QD S E x=some (.slice av n c))(hy:QD S E y=some (.int k i))(hz:QD S E z=some (.int k' q))(hT:SlT C.P t e size)(hb:Yf S=true→(0≤q∧q≤(c:Int))∧0≤i∧i≤q):
  QT C S E I loc ⟨dst,.slice t x (some y) (some z) none,ty,pos,af,gd⟩ (.slice (znq av c i.toNat size) (q.toNat -i.toNat) (c-i.toNat)):=
 .of kE fun a w ha hg hc _=>by
  obtain ⟨h1,j,h2,h3⟩:=hT
  have hq:=(hb hc).1
  have hi:0≤i∧i≤((q.toNat:Nat):Int):=by have:=(hb hc).2;omega
  simp only [execOp,Option.map_none,Option.map_some,Qh ha hg hc hx,Qh ha hg hc hy,Qh ha hg hc hz,Instr.sliceAt,Instr.slice,Instr.sliceBounds,Instr.sliceBound,asIntOf,Sem.run_bind,Sem.run_pure,run_underlying h1,Result.andThen,if_pos hq,if_pos hi,run_sizeOf h2,h3,znq]
theorem Sl.part {α:Type}{size:Nat}{enc:α→List Value}{av:Option Addr}{n c:Nat}{xs:List α}(h:Sl I size enc av n c xs){k q:Nat}(hk:k≤q)(hq:q≤n):Sl I size enc (znq av c k size) (q-k) (c-k) ((xs.take q).drop k):=
 (h.take hq).drop hk
end
end
end Go.Kn
namespace Go.Proofs.YtjblkbkmblkgoaaGreat
section
open Go Go.Kn Go.Proofs
theorem zy4 {I:Qu}{av bv:Option Addr}{n c m d:Nat}{xs ys:List Pt}(hS:SlP I av n c xs)(hT:SlP I bv m d ys)(hsm:∀ p∈xs,p.n≤100000)(hn:n≤100000):ZA Tryz.prog 28 [.slice av n c,.slice bv m d] I (.bool (zjp xs ys)):=by
 intro g H w hw
 refine qe Tryz.func28 Tryz.ntmps28 hw ?_
 have hl1:=hS.1.len
 have hl2:=hT.1.len
 refine zR (zA (zN (Qo (zR ?_))))
 refine zM ?_
 refine zQ YW ?_
 refine zM ?_
 refine zQ YW ?_
 refine zC (zN ?_)
 refine zI ?_ ?_<;>intro hc10
 ·
  refine zR (zA (zN (Qs (Qf ?_))))
  exact Qy rfl rfl (fun w hw=>⟨by rw [zg0 (by simp at hc10;omega)],hw⟩)
 have h10:n=m:=by have h:=hc10;simp at h;omega
 refine Qp (Qd (Qo (zR (zA (zN (Qx ?_))))))
 refine zU [(0,_),(1,_)] (fun T L0 mz E I' loc'=>∃ (k:Nat),mz=n-k∧E=(5,.int .i64 k)::T∧I=I'∧L0=loc'∧k≤n∧(∀ (j:Nat) (u v:Pt),j<k→xs[j]? =some u→ys[j]? =some v→smP u v=true)) ?_ (h:=⟨0,rfl,rfl,rfl,rfl,Nat.zero_le _,fun j u v h=>absurd h (Nat.not_lt_zero _)⟩)
 rintro mz E I' loc' ⟨k,rfl,rfl,rfl,rfl,hk,hall⟩
 refine Qo (zR (zM ?_))
 refine zM ?_
 refine zQ YW ?_
 refine zC (zN ?_)
 refine zI ?_ ?_<;>intro hc14
 ·
  have hlt_k:k<n:=by have h:=hc14;simp at h;omega
  obtain ⟨x,hx⟩:∃ y,xs[k]? =some y:=⟨_,List.getElem?_eq_getElem kB⟩
  obtain ⟨y,hy⟩:∃ y,ys[k]? =some y:=⟨_,List.getElem?_eq_getElem kB⟩
  refine Qp (Qd (Qo (Qx (Qo ?_))))
  have hD:=zz4 I
  refine Zn ?_
  refine QL I [] mixed ?_
  refine zT 0 rfl (Qe rfl) hD ?_
  refine zT 1 rfl (Qe rfl) hD ?_
  refine zT 2 rfl (QE rfl rfl YW hS.1 (fun hg=>kB)) hD ?_
  refine zT 3 rfl (Qg rfl Y3 (fun hg=>by exact zz5 hS.1 hx) rfl) hD ?_
  refine zT 4 rfl (Qe rfl) hD ?_
  refine zT 5 rfl (Qe rfl) hD ?_
  refine zT 6 rfl (QE rfl rfl YW hT.1 (fun hg=>kB)) hD ?_
  refine zT 7 rfl (Qg rfl Y3 (fun hg=>by exact zz5 hT.1 hy) rfl) hD ?_
  refine qd 8 rfl ?_
  refine qcV (vs:=[_,_]) rfl zjZ (zxE (hS.2 x (List.mem_of_getElem? hx)) (hT.2 y (List.mem_of_getElem? hy)) (hsm x (List.mem_of_getElem? hx))) ?_
  refine Qb ?_
  refine zD hD ?_
  refine zT 9 rfl (Zs rfl) hD ?_
  refine Ql kA ?_
  refine Qt ?_
  refine Qd ?_
  refine zI ?_ ?_<;>intro hc26
  ·
   refine zR (zA (zN (Qs (Qk (Qf (Qf (Qk ?_)))))))
   refine Qf ?_
   exact Qy rfl rfl (fun w hw=>⟨by rw [zna hx hy (by simpa using hc26)],hw⟩)
  have hxy:smP x y=true:=by simpa using hc26
  refine Qp (Qj (Qd (Qi (zM ?_))))
  refine zB ?_
  refine zA (Qb ?_)
  exact zm (h:=⟨n-(k+1),kB,k+1,rfl,rfl,rfl,rfl,kB,zm2 hx hy hall hxy⟩)
 have hge_k:n≤k:=by have h:=hc14;simp at h;omega
 refine Q6 (Qn (Qn (Qw (Qd (zR (zA (zN ?_)))))))
 refine Qs ?_
 exact Qy rfl rfl (fun w hw=>⟨by rw [zh1 kB (fun j u v hj hu hv=>hall j u v kB hu hv)],hw⟩)
theorem zqF (I:Qu)(x:Nt):ZA Tryz.prog 41 [Ke x] I (.int .i64 (WY x)):=by
 intro g H w hw
 refine qe Tryz.func41 Tryz.ntmps41 hw ?_
 have hIc:=zz4 I
 refine zR ?_
 refine QO rfl rfl rfl (fun b_1=>?_)
 refine zA (Qb ?_)
 refine QF .here (fun I1 hI1 hb1=>?_)
 have hIc:=hIc.trans hI1
 have h1:=BxI.of hb1
 refine Qd (Qo (zR ?_))
 refine zF Yg ?_
 refine zV (Qc rfl Qm (fun hg=>by exact QA.imm h1.out rfl)) ?_
 refine zN (Qx (zR (zC ?_)))
 refine zA (zN ?_)
 refine zI ?_ ?_<;>intro hc5
 ·
  refine zR ?_
  refine zF YD ?_
  refine zF Ye ?_
  refine zV (Qc rfl Qm (fun hg=>by exact QA.imm h1.out rfl)) ?_
  refine zA (zN (Qs (Qk (Qf ?_))))
  exact Qy rfl rfl (fun w hw=>⟨by rw [ziX x (by simpa using hc5)],(hw.mono hIc).subL QC⟩)
 have k1:¬x.kind=1:=by simpa using hc5
 refine zR (zC ?_)
 refine zA (zN ?_)
 refine zI ?_ ?_<;>intro hc10
 ·
  refine zR ?_
  refine zF ZZ ?_
  refine zF ZJ ?_
  refine zV (Qc rfl Qm (fun hg=>by exact QA.imm h1.out rfl)) ?_
  refine zA (zN (Qs (Qk (Qf ?_))))
  exact Qy rfl rfl (fun w hw=>⟨by rw [zir x (by simpa using hc10)],(hw.mono hIc).subL QC⟩)
 have k2:¬x.kind=2:=by simpa using hc10
 refine zR (zC ?_)
 refine zA (zN ?_)
 refine zI ?_ ?_<;>intro hc15
 ·
  refine zR ?_
  refine zF Y7 ?_
  refine zF VP ?_
  refine zV (Qc rfl Qm (fun hg=>by exact QA.imm h1.out rfl)) ?_
  refine zA (zN (Qs (Qk (Qf ?_))))
  exact Qy rfl rfl (fun w hw=>⟨by rw [zil x (by simpa using hc15)],(hw.mono hIc).subL QC⟩)
 have k3:¬x.kind=3:=by simpa using hc15
 refine Qp (Qj (Qd (zR ?_)))
 refine zF Z0 ?_
 refine zF Yp ?_
 refine zV (Qc rfl Qm (fun hg=>by exact QA.imm h1.out rfl)) ?_
 refine zA (zN (Qs ?_))
 exact Qy rfl rfl (fun w hw=>⟨by unfold WY;rw [if_neg k1,if_neg k2,if_neg k3],(hw.mono hIc).subL QC⟩)
end
section
open Go Go.Kn Go.Proofs
theorem zq1:Fun Tryz.prog 41:=.of Tryz.func41 kA kA
theorem zst:Tryz.prog.underlying 4=some .bool:=kA
set_option maxRecDepth 100000 in
set_option maxHeartbeats 4000000 in
theorem zoT {I:Qu} {av:Option Addr} {n c:Nat} {xs:List Nt} (hP:zbd I av n c xs) (hW:∀ x∈xs,NtW x):ZA Tryz.prog 8 [.agg #[.slice av n c]] I (.bool true):=by
 intro g H w hw
 refine qe Tryz.func8 Tryz.ntmps8 hw ?_
 have hIc:=zz4 I
 have hln:=hP.sl.len
 have hcap:=hP.sl.cap
 refine zR ?_
 refine QO rfl rfl rfl (fun b_1=>?_)
 refine zA (Qb ?_)
 refine QF .here (fun I1 hI1 hb1=>?_)
 have hP:=hP.mono hI1;have hIc:=hIc.trans hI1
 have h1:=BxI.of hb1
 refine Qd (Qo (zR ?_))
 refine qcV (vs:=[]) rfl zwZ (zvp I1) ?_
 refine zO (zN ?_)
 refine zI ?_ ?_<;>intro hc21
 ·
  cases hc21
 refine Qp (Qd (Qo (zR ?_)))
 refine zF ZB ?_
 refine zV (Qc rfl YY (fun hg=>by exact QA.imm h1.out rfl)) ?_
 refine zQ Q8 ?_
 refine zC ?_
 refine zM ?_
 refine QK 4 rfl rfl rfl ?_
 refine zJ (Qg rfl KH (fun hg=>by exact BxI.cells (vs:=[_]) h1) rfl) ?_
 refine qf (vs:=[_]) rfl zxQ (fun hg=>zp4 hP hW (by (simp [Yf] at hg;omega))) ?_
 refine zJ (Zs rfl) ?_
 refine Zg rfl rfl rfl rfl rfl ?_
 refine zN ?_
 refine zI ?_ ?_<;>intro hc30
 ·
  refine zR (zA (zN (Qs (Qf ?_))))
  exact Qy rfl rfl (fun w hw=>⟨by rfl,(hw.mono hIc).subL QC⟩)
 have hfew:n≤30∧ZL xs=true:=by have h:=hc30;simp at h;exact ⟨kB,h.2⟩
 have hv:=hfew.2
 have hn30:=hfew.1
 refine Qp (Qd (zR ?_))
 refine zV (Qg rfl KH (fun hg=>by exact BxI.cells (vs:=[_]) h1) rfl) ?_
 refine zpc [_] rfl zmp .nil (zfM hP kB) ?_
 rintro vv2 I2 L2 hI2 hWq
 have hP:=hP.mono hI2;have h1:=h1.mono hI2;have hIc:=hIc.trans hI2
 obtain ⟨rfl,a1,n1,c1,a2,n2,c2,a3,n3,c3,a4,n4,c4,rfl,hS1,hS2,hS3,hS4⟩:=zgp hWq hv
 have tkl:∀ {α:Type} {num:Nt→Int} {prt:Nt→α} {kind:Int} {chk:List α→Int} {d:α} {q:Nat},(Wo num prt kind chk d xs).length=q→q≤xs.length:=fun {α num prt kind chk d q} h=>by have h2:=zpv (num:=num) (prt:=prt) (kind:=kind) (chk:=chk) (d:=d) xs;omega
 have hl1:n1≤n:=by have h:=tkl hS1.len;omega
 have hl2:n2≤n:=by have h:=tkl hS2.len;omega
 have hl3:n3≤n:=by have h:=tkl hS3.1.len;omega
 have hl4:n4≤n:=by have h:=tkl hS4.len;omega
 have le1:=hS1.len
 have le2:=hS2.len
 have le3:=hS3.1.len
 have le4:=hS4.len
 have cp1:=hS1.cap
 have cp2:=hS2.cap
 have cp3:=hS3.1.cap
 have cp4:=hS4.cap
 have hsm3:∀ p∈wPt xs,p.n≤100000:=zme (fun x hx=>zpz (hP.nd x hx) (by rw [Jt (hP.nd x hx).len.symm];exact (Yc hv).2.1 x hx))
 refine zM ?_
 refine zE ?_
 refine zE ?_
 refine zE ?_
 refine zE ?_
 refine zE ?_
 refine zA ?_
 refine zA ?_
 refine zA ?_
 refine zA ?_
 refine zA (zN (Qo (Qo ?_)))
 have hC1:=zb2 hS1 (show n1≤100000 by omega)
 rw [zyr] at hC1
 have hC2:=L.w_check hS2 (show n2≤100000 by omega)
 rw [zyS] at hC2
 have hC3:=zfs hS3 (show n3≤100000 by omega)
 rw [zyq] at hC3
 have hC4:=S.w_check hS4 (show n4≤100000 by omega)
 rw [zyQ] at hC4
 refine Qi (zM ?_)
 refine zC ?_
 refine zM ?_
 refine QP (dj:=41) rfl rfl rfl ?_
 refine zM ?_
 refine QP (dj:=41) rfl rfl rfl ?_
 refine qcV (vs:=[_]) rfl zbz (hC1) ?_
 refine QP (dj:=41) rfl rfl rfl ?_
 refine zC ?_
 refine zV (QW rfl rfl rfl) ?_
 refine zM ?_
 refine QP (dj:=46) rfl rfl rfl ?_
 refine zM ?_
 refine QP (dj:=46) rfl rfl rfl ?_
 refine qcV (vs:=[_]) rfl zcT (hC2) ?_
 refine QP (dj:=46) rfl rfl rfl ?_
 refine zC ?_
 refine zV (QW rfl rfl rfl) ?_
 refine zM ?_
 refine QP (dj:=51) rfl rfl rfl ?_
 refine zM ?_
 refine QP (dj:=51) rfl rfl rfl ?_
 refine qcV (vs:=[_]) rfl zeU (hC3) ?_
 refine QP (dj:=51) rfl rfl rfl ?_
 refine zC ?_
 refine zV (QW rfl rfl rfl) ?_
 refine zM ?_
 refine QP (dj:=56) rfl rfl rfl ?_
 refine zM ?_
 refine QP (dj:=56) rfl rfl rfl ?_
 refine qcV (vs:=[_]) rfl zb0 (hC4) ?_
 refine QP (dj:=56) rfl rfl rfl ?_
 refine zC ?_
 refine zV (QW rfl rfl rfl) ?_
 refine zN ?_
 refine zI ?_ ?_<;>intro hc60
 ·
  exact absurd hc60 kD
 refine Qp (Qd (zR (zA (zN (Qo (zR ?_))))))
 refine zF ZB ?_
 refine zV (Qc rfl YY (fun hg=>by exact QA.imm h1.out rfl)) ?_
 refine zQ Q8 ?_
 refine zM (zN (Qx ?_))
 refine zU [(1,_),(3,_),(4,_),(5,_),(6,_),(62,_),(63,_)] (fun T L0 mz E I' loc'=>∃ (i:Nat) (tk:Int),mz=n-i∧E=(8,.int .i64 tk)::(64,.int .i64 i)::T∧HLe I2 I'∧L0=loc'∧i≤n∧tk=((znp xs i:Nat):Int)) ?_ (h:=⟨0,0,rfl,rfl,zz4 _,rfl,Nat.zero_le _,rfl⟩)
 rintro mz E J3 loc' ⟨i,tk,rfl,rfl,hJ,rfl,hi,htk⟩
 have hP:=hP.mono hJ;have h1:=h1.mono hJ;have hS1:=hS1.mono hJ;have hS2:=hS2.mono hJ;have hS3:=hS3.mono hJ;have hS4:=hS4.mono hJ;have hIc:=hIc.trans hJ
 have hB0:=hJ
 have hct:=zr2 xs i
 refine zR (zC (zN (Qo ?_)))
 refine zI ?_ ?_<;>intro hc65
 ·
  have hlt_i:i<n:=by have h:=hc65;simp at h;omega
  obtain ⟨x,hx⟩:∃ y,xs[i]? =some y:=⟨_,List.getElem?_eq_getElem kB⟩
  have hxm:=List.mem_of_getElem? hx
  have hkx:=zjA ((Yc hv).2.1 x hxm)
  refine Qp (Qd (Qo (Qx (zR (zM ?_)))))
  refine zV (QE rfl rfl Q8 hP.sl (fun hg=>kB)) ?_
  refine zV (Qg rfl Q7 (fun hg=>by exact zz5 hP.sl hx) rfl) ?_
  refine Qr Wn rfl rfl (fun b_10=>?_)
  refine zA ?_
  refine zh VG ?_
  refine Qb ?_
  refine QF .here (fun I4 hI4 hb4=>?_)
  have hP:=hP.mono hI4;have h1:=h1.mono hI4;have hS1:=hS1.mono hI4;have hS2:=hS2.mono hI4;have hS3:=hS3.mono hI4;have hS4:=hS4.mono hI4;have hB0:=hB0.trans hI4
  have h10:=BxI.of hb4
  refine Qd (zR (zA (zN (Qo (zR ?_)))))
  refine zF ZB ?_
  refine zV (Qc rfl YY (fun hg=>by exact QA.imm h1.out rfl)) ?_
  refine zM ?_
  refine zV (YI rfl rfl Q8 (fun hg=>kB)) ?_
  refine zQ Q8 ?_
  refine zM (zN (Qx ?_))
  refine zU [(1,_),(3,_),(4,_),(5,_),(6,_),(8,_),(10,_),(62,_),(63,_),(64,_),(72,_),(73,_)] (fun T L0 mz E I' loc'=>∃ (j:Nat) (fb:Bool),mz=i-j∧E=(11,.bool fb)::(74,.int .i64 j)::T∧HLe I4 I'∧L0=loc'∧j≤i∧fb=(((xs.take i).take j).all fun m=>m.kind != x.kind||WY m != WY x)) ?_ (h:=⟨0,true,rfl,rfl,zz4 _,rfl,Nat.zero_le _,rfl⟩)
  rintro mz E J5 loc' ⟨j,fb,rfl,rfl,hJ,rfl,hj,hfb⟩
  have hP:=hP.mono hJ;have hS1:=hS1.mono hJ;have hS2:=hS2.mono hJ;have hS3:=hS3.mono hJ;have hS4:=hS4.mono hJ;have h10:=h10.mono hJ;have hB0:=hB0.trans hJ
  have hB2:=hJ
  refine zR (zC (zN (Qo ?_)))
  refine zI ?_ ?_<;>intro hc75
  ·
   have hlt_j:j<i:=by have h:=hc75;simp at h;omega
   obtain ⟨y,hy⟩:∃ y,(xs.take i)[j]? =some y:=⟨_,List.getElem?_eq_getElem kO⟩
   have hym:y∈xs:=List.mem_of_mem_take (List.mem_of_getElem? hy)
   refine Qp (Qd (Qo (Qx (zR ?_))))
   refine zV (QE rfl rfl Q8 (hP.sl.take (Nat.le_of_lt hlt_i)) (fun hg=>kB)) ?_
   refine zV (Qg rfl Q7 (fun hg=>by exact zz5 (hP.sl.take (Nat.le_of_lt hlt_i)) hy) rfl) ?_
   refine Qr Wn rfl rfl (fun b_13=>?_)
   refine zh VG ?_
   refine Qb ?_
   refine QF .here (fun I6 hI6 hb6=>?_)
   have h10:=h10.mono hI6;have hB2:=hB2.trans hI6
   have h13:=BxI.of hb6
   refine Qd ?_
   rcases (show fb=false∨(fb=true∧(y.kind != x.kind)=true)∨(fb=true∧(y.kind != x.kind)=false) by cases fb<;>cases (y.kind != x.kind)<;>simp) with rfl | ⟨rfl,hke⟩ | ⟨rfl,hke⟩
   ·
    have hD:=zz4 I6
    refine Zn ?_
    refine QL I6 [] mixed ?_
    refine zT 0 rfl (Qe rfl) hD ?_
    refine zT 1 rfl (Qe rfl) hD ?_
    refine zW 2 79 hD ?_
    refine zW 3 79 hD ?_
    refine zW 4 79 hD ?_
    refine zW 5 79 hD ?_
    refine zW 6 79 hD ?_
    refine zW 7 79 hD ?_
    refine zW 8 85 hD ?_
    refine zW 9 85 hD ?_
    refine zW 10 85 hD ?_
    refine zW 11 85 hD ?_
    refine zW 12 85 hD ?_
    refine zW 13 79 hD ?_
    refine zT 14 rfl (Z6 rfl rfl rfl) hD ?_
    refine zT 15 rfl (Qv rfl) hD ?_
    refine Ql kA ?_
    refine Qt ?_
    refine Qj (Qd (Qi (zB ?_)))
    refine zM (Qb ?_)
    first
    | exact zm (h:=⟨i-(j+1),kB,j+1,_,rfl,rfl,hB2,rfl,kB,by rw [zds hy hfb];rfl⟩)
   ·
    have hD:=zz4 I6
    refine Zn ?_
    refine QL I6 [] mixed ?_
    refine zT 0 rfl (Qe rfl) hD ?_
    refine zT 1 rfl (Qe rfl) hD ?_
    refine zw 2 79 rfl (Qa rfl Yg) hD ?_
    refine zw 3 79 rfl (Qc rfl Qm (fun hg=>by exact QA.imm h13.out rfl)) hD ?_
    refine zw 4 79 rfl (Qa rfl Yg) hD ?_
    refine zw 5 79 rfl (Qc rfl Qm (fun hg=>by exact QA.imm h10.out rfl)) hD ?_
    refine zw 6 79 rfl (Qz rfl rfl rfl) hD ?_
    rw [hke]
    refine zw 7 79 rfl (Qe rfl) hD ?_
    refine zW 8 85 hD ?_
    refine zW 9 85 hD ?_
    refine zW 10 85 hD ?_
    refine zW 11 85 hD ?_
    refine zW 12 85 hD ?_
    refine zw 13 79 rfl (Z6 rfl rfl rfl) hD ?_
    refine zT 14 rfl (QW rfl rfl rfl) hD ?_
    refine zT 15 rfl (Qv rfl) hD ?_
    refine Ql kA ?_
    refine Qt ?_
    refine Qj (Qd (Qi (zB ?_)))
    refine zM (Qb ?_)
    first
    | exact zm (h:=⟨i-(j+1),kB,j+1,_,rfl,rfl,hB2,rfl,kB,by rw [zds hy hfb,hke];rfl⟩)
   have hD:=zz4 I6
   refine Zn ?_
   refine QL I6 [] mixed ?_
   refine zT 0 rfl (Qe rfl) hD ?_
   refine zT 1 rfl (Qe rfl) hD ?_
   refine zw 2 79 rfl (Qa rfl Yg) hD ?_
   refine zw 3 79 rfl (Qc rfl Qm (fun hg=>by exact QA.imm h13.out rfl)) hD ?_
   refine zw 4 79 rfl (Qa rfl Yg) hD ?_
   refine zw 5 79 rfl (Qc rfl Qm (fun hg=>by exact QA.imm h10.out rfl)) hD ?_
   refine zw 6 79 rfl (Qz rfl rfl rfl) hD ?_
   rw [hke]
   refine zw 7 79 rfl (Qe rfl) hD ?_
   refine zw 8 85 rfl (Qg rfl Q7 (fun hg=>by exact BxI.cells (vs:=Q4 y) h13) rfl) hD ?_
   refine zw 10 85 rfl (Qg rfl Q7 (fun hg=>by exact BxI.cells (vs:=Q4 x) h10) rfl) hD ?_
   refine qd 9 rfl ?_
   refine QP (dj:=85) rfl rfl rfl ?_
   refine qcV (vs:=[_]) rfl zq1 (zqF _ y) ?_
   refine Qb ?_
   refine zD hD ?_
   refine qd 11 rfl ?_
   refine QP (dj:=85) rfl rfl rfl ?_
   refine qcV (vs:=[_]) rfl zq1 (zqF _ x) ?_
   refine Qb ?_
   refine zD hD ?_
   refine zw 12 85 rfl (Qz rfl rfl rfl) hD ?_
   refine zw 13 79 rfl (QW rfl rfl rfl) hD ?_
   refine zT 14 rfl (QW rfl rfl rfl) hD ?_
   refine zT 15 rfl (Qv rfl) hD ?_
   refine Ql kA ?_
   refine Qt ?_
   refine Qj (Qd (Qi (zB ?_)))
   refine zM (Qb ?_)
   first
   | exact zm (h:=⟨i-(j+1),kB,j+1,_,rfl,rfl,hB2,rfl,kB,by rw [zds hy hfb,hke];rfl⟩)
  have hge_j:i≤j:=by have h:=hc75;simp at h;omega
  obtain rfl:i=j:=kB
  have hfst:=zon (x:=x) kB hfb
  refine Q6 (Qn (Qn (Qw (Qd (zR (zA ?_))))))
  refine zA (zN ?_)
  refine zY [(1,_),(3,_),(4,_),(5,_),(6,_),(8,_),(11,_),(62,_),(63,_),(64,_)] (fun T L0 E I' loc'=>∃ (inb ftb:Bool),E=(14,.bool inb)::(15,.bool ftb)::T∧HLe J5 I'∧L0=loc'∧inb=tkF xs i x∧ftb=zhQ xs x) ?_ ?_
  ·
   have hKb4:=zz4 J5
   refine zR ?_
   refine zF Yg ?_
   refine zV (Qc rfl Qm (fun hg=>by exact QA.imm h10.out rfl)) ?_
   refine zN (Qx (zR (zC ?_)))
   refine zA (zN ?_)
   refine zI ?_ ?_<;>intro hc137
   ·
    have hk1:x.kind=1:=by simpa using hc137
    refine zR (zA (zN ?_))
    refine zY [(1,_),(3,_),(4,_),(5,_),(6,_),(8,_),(10,_),(11,_),(62,_),(63,_),(64,_)] (fun T L0 E I' loc'=>∃ (k:Nat),E=(16,.int .i64 k)::T∧HLe J5 I'∧L0=loc'∧VH (·.no) (wLm xs) x.lm.no=k∧k≤n1) ?_ ?_
    ·
     have hK7:=zz4 J5
     refine Qx ?_
     refine zU [(1,_),(3,_),(4,_),(5,_),(6,_),(8,_),(10,_),(11,_),(62,_),(63,_),(64,_)] (fun T L0 mz E I' loc'=>∃ (k:Nat),mz=n1-k∧E=(16,.int .i64 k)::T∧HLe J5 I'∧L0=loc'∧k≤n1∧(∀ (j:Nat) (y:_),j<k→(wLm xs)[j]? =some y→y.no<x.lm.no)) ?_ (h:=⟨0,rfl,rfl,zz4 _,rfl,Nat.zero_le _,fun j y h=>absurd h (Nat.not_lt_zero _)⟩)
     rintro mz E J7 loc' ⟨k,rfl,rfl,hJ,rfl,hk,hall⟩
     have hS1:=hS1.mono hJ;have h10:=h10.mono hJ;have hK7:=hK7.trans hJ
     have hB7:=hJ
     refine Qo (Qo ?_)
     rcases Nat.lt_or_ge k n1 with hkn | hkn
     ·
      obtain ⟨y,hy⟩:∃ y,(wLm xs)[k]? =some y:=⟨_,List.getElem?_eq_getElem kB⟩
      have hD:=zz4 J7
      refine Vq mixed ?_
      refine zT 0 rfl (Qe rfl) hD ?_
      refine zT 1 rfl (Qe rfl) hD ?_
      refine zT 2 rfl (QU rfl Zx) hD ?_
      refine zT 3 rfl (Qz rfl rfl rfl) hD ?_
      rw [show decide (((k:Nat):Int)<((n1:Nat):Int))=true by simp;omega]
      refine zT 4 rfl (Qe rfl) hD ?_
      refine zw 5 143 rfl (Qe rfl) hD ?_
      refine zw 6 143 rfl (Qe rfl) hD ?_
      refine zw 7 143 rfl (zX Zx hS1) hD ?_
      refine zw 8 143 rfl (Qa rfl Ye) hD ?_
      refine zw 9 143 rfl (Qc rfl Qm (fun hg=>by exact zzX hS1 hy rfl)) hD ?_
      refine zw 10 143 rfl (Qa rfl YD) hD ?_
      refine zw 11 143 rfl (Qa rfl Ye) hD ?_
      refine zw 12 143 rfl (Qc rfl Qm (fun hg=>by exact QA.imm h10.out rfl)) hD ?_
      refine zw 13 143 rfl (Qz rfl rfl rfl) hD ?_
      refine zT 14 rfl (QW rfl rfl rfl) hD ?_
      refine Ql kA ?_
      refine Qt ?_
      refine Qd ?_
      refine zI ?_ ?_<;>intro hc153
      ·
       have hyl:y.no<x.lm.no:=by simpa using hc153
       refine Qp (Qd (Qx (Qi (zM ?_))))
       refine zB ?_
       refine zA (Qb (Qj ?_))
       exact zm (h:=⟨n1-(k+1),kB,k+1,rfl,rfl,hB7,rfl,kB,zaS hall hy hyl⟩)
      have hkp:VH (·.no) (wLm xs) x.lm.no=k:=(KT kB hall (fun z hz=>by rw [hy] at hz;cases hz;simpa using hc153)).symm
      refine Q6 (Qn (Qn (Qw ?_)))
      exact zm (h:=⟨_,rfl,hK7,rfl,hkp,hk⟩)
     have hD:=zz4 J7
     refine Vq mixed ?_
     refine zT 0 rfl (Qe rfl) hD ?_
     refine zT 1 rfl (Qe rfl) hD ?_
     refine zT 2 rfl (QU rfl Zx) hD ?_
     refine zT 3 rfl (Qz rfl rfl rfl) hD ?_
     rw [show decide (((k:Nat):Int)<((n1:Nat):Int))=false by simp;omega]
     refine zT 4 rfl (Qe rfl) hD ?_
     refine zW 5 143 hD ?_
     refine zW 6 143 hD ?_
     refine zW 7 143 hD ?_
     refine zW 8 143 hD ?_
     refine zW 9 143 hD ?_
     refine zW 10 143 hD ?_
     refine zW 11 143 hD ?_
     refine zW 12 143 hD ?_
     refine zW 13 143 hD ?_
     refine zT 14 rfl (Z6 rfl rfl rfl) hD ?_
     refine Ql kA ?_
     refine Qt ?_
     refine Qd ?_
     refine zI ?_ ?_<;>intro hc153
     ·
      cases hc153
     have hkp:VH (·.no) (wLm xs) x.lm.no=k:=(KT kB hall (fun z hz=>by have h:=(List.getElem?_eq_some_iff.1 hz).1;omega)).symm
     refine Q6 (Qn (Qn (Qw ?_)))
     exact zm (h:=⟨_,rfl,hK7,rfl,hkp,hk⟩)
    rintro E J8 loc' ⟨k,rfl,hJ5,rfl,hkp,hk⟩
    have hP:=hP.mono hJ5;have hS1:=hS1.mono hJ5;have h10:=h10.mono hJ5;have hKb4:=hKb4.trans hJ5
    refine zY [(1,_),(3,_),(4,_),(5,_),(6,_),(8,_),(10,_),(11,_),(16,_),(62,_),(63,_),(64,_)] (fun T L0 E I' loc'=>∃ (inb:Bool),E=(14,.bool inb)::T∧HLe J8 I'∧L0=loc'∧inb=tkF xs i x) ?_ ?_
    ·
     have hKc29:=zz4 J8
     rcases Nat.lt_or_ge k n1 with hkn | hkn
     ·
      obtain ⟨y,hy⟩:∃ y,(wLm xs)[k]? =some y:=⟨_,List.getElem?_eq_getElem kB⟩
      have hD:=zz4 J8
      refine Vq mixed ?_
      refine zT 0 rfl (Qe rfl) hD ?_
      refine zT 1 rfl (Qe rfl) hD ?_
      refine zT 2 rfl (QU rfl Zx) hD ?_
      refine zT 3 rfl (Qz rfl rfl rfl) hD ?_
      rw [show decide (((k:Nat):Int)<((n1:Nat):Int))=true by simp;omega]
      refine zT 4 rfl (Qe rfl) hD ?_
      refine zw 5 160 rfl (Qe rfl) hD ?_
      refine zw 6 160 rfl (Qe rfl) hD ?_
      refine zw 7 160 rfl (zX Zx hS1) hD ?_
      refine zw 8 160 rfl (Qg rfl V7 (fun hg=>by exact zz5 hS1 hy) rfl) hD ?_
      refine zw 9 160 rfl (Qa rfl YD) hD ?_
      refine zw 10 160 rfl (Qg rfl V7 (fun hg=>by exact zbw (BxI.cells (vs:=Q4 x) h10)) rfl) hD ?_
      refine zw 11 160 rfl (Ut rfl rfl zdh rfl) hD ?_
      refine zT 12 rfl (QW rfl rfl rfl) hD ?_
      refine zT 13 rfl (Qv rfl) hD ?_
      refine Ql kA ?_
      refine Qt ?_
      first
      | exact zm (h:=⟨_,rfl,hKc29,rfl,(zxA hP.nd hv hx hk1 (by rw [hkp];rw [hy];rfl)).trans (zpU hk1).symm⟩)
     have hy:(wLm xs)[k]? =none:=List.getElem?_eq_none kB
     have hD:=zz4 J8
     refine Vq mixed ?_
     refine zT 0 rfl (Qe rfl) hD ?_
     refine zT 1 rfl (Qe rfl) hD ?_
     refine zT 2 rfl (QU rfl Zx) hD ?_
     refine zT 3 rfl (Qz rfl rfl rfl) hD ?_
     rw [show decide (((k:Nat):Int)<((n1:Nat):Int))=false by simp;omega]
     refine zT 4 rfl (Qe rfl) hD ?_
     refine zW 5 160 hD ?_
     refine zW 6 160 hD ?_
     refine zW 7 160 hD ?_
     refine zW 8 160 hD ?_
     refine zW 9 160 hD ?_
     refine zW 10 160 hD ?_
     refine zW 11 160 hD ?_
     refine zT 12 rfl (Z6 rfl rfl rfl) hD ?_
     refine zT 13 rfl (Qv rfl) hD ?_
     refine Ql kA ?_
     refine Qt ?_
     first
     | exact zm (h:=⟨_,rfl,hKc29,rfl,(zxA hP.nd hv hx hk1 (by rw [hkp];rw [hy];rfl)).trans (zpU hk1).symm⟩)
    rintro E J9 loc' ⟨inb,rfl,hJ6,rfl,hin⟩
    have hS1:=hS1.mono hJ6;have h10:=h10.mono hJ6;have hKb4:=hKb4.trans hJ6
    have hD:=zz4 J9
    refine Zn ?_
    refine QL J9 [] mixed ?_
    refine zT 1 rfl (Qe rfl) hD ?_
    refine zT 2 rfl (Qe rfl) hD ?_
    refine zT 3 rfl (YI rfl rfl Zx (fun hg=>kB)) hD ?_
    refine zT 5 rfl (Qa rfl YD) hD ?_
    refine zT 6 rfl (Qg rfl V7 (fun hg=>by exact zbw (BxI.cells (vs:=Q4 x) h10)) rfl) hD ?_
    refine QS 0 7 rfl rfl kA ?_ ?_
    ·
     refine zpb [] [] VB (fun b_169=>?_)
     refine Qb ?_
     refine zD hD ?_
     refine QS 4 7 rfl rfl kA ?_ ?_
     ·
      refine zpa (_) (((wLm xs).take k).flatMap Zh) ([(b_169,_)]) rfl rfl VB ZW.new ((hS1.take hk).src Yx) (zap _) ?_
      intro v1 L1 hO1 _;rw [List.nil_append] at hO1
      refine Qb ?_
      refine zD hD ?_
      refine qd 7 rfl ?_
      refine zpb [(0,_)] [Zh x.lm] VB (fun b_176=>?_)
      refine Qb ?_
      refine zD hD ?_
      refine qd 8 rfl ?_
      refine zpa (v1) ([x.lm].flatMap Zh) (L1) rfl rfl VB hO1 ⟨rfl,fun _=>rfl,by repeat (first | exact zz2 | apply zz1 | apply zz3)⟩ (zap [x.lm]) ?_
      intro v2 L2 hO2 _
      refine Qb ?_
      refine zD hD ?_
      refine qd 9 rfl ?_
      refine Yv (xs:=(wLm xs).take k++[x.lm]) kK Yx kD (by repeat (first | exact .cons .here .nil | exact Zk | exact Q0 | apply Q9 | apply Q5)) (fun I10 hI10 af10 cf10 ef10 hZ=>?_)
      subst ef10
      have hKb4:=hKb4.trans hI10;have hD:=hD.trans hI10
      refine qcV (vs:=[_]) rfl zbz (zb2 hZ kB) ?_
      refine Qb ?_
      refine zD hD ?_
      refine zT 10 rfl (Qz rfl rfl rfl) hD ?_
      refine zT 11 rfl (Qv rfl) hD ?_
      refine Ql kA ?_
      refine Qt ?_
      have hft:=zrM hk1 hkp
      refine Qj ?_
      exact zm (h:=⟨_,_,rfl,hKb4,rfl,hin,hft⟩)
     refine zpb [(0,_)] [Zh x.lm] VB (fun b_176=>?_)
     refine Qb ?_
     refine zD hD ?_
     refine qd 4 rfl ?_
     refine zpa (_) (((wLm xs).take k).flatMap Zh) ([(b_169,_)]) rfl rfl VB ZW.new ((hS1.take hk).src Yx) (zap _) ?_
     intro v1 L1 hO1 _;rw [List.nil_append] at hO1
     refine Qb ?_
     refine zD hD ?_
     refine qd 8 rfl ?_
     refine zpa (v1) ([x.lm].flatMap Zh) (L1) rfl rfl VB hO1 ⟨rfl,fun _=>rfl,by repeat (first | exact zz2 | apply zz1 | apply zz3)⟩ (zap [x.lm]) ?_
     intro v2 L2 hO2 _
     refine Qb ?_
     refine zD hD ?_
     refine qd 9 rfl ?_
     refine Yv (xs:=(wLm xs).take k++[x.lm]) kK Yx kD (by repeat (first | exact .cons .here .nil | exact Zk | exact Q0 | apply Q9 | apply Q5)) (fun I11 hI11 af11 cf11 ef11 hZ=>?_)
     subst ef11
     have hKb4:=hKb4.trans hI11;have hD:=hD.trans hI11
     refine qcV (vs:=[_]) rfl zbz (zb2 hZ kB) ?_
     refine Qb ?_
     refine zD hD ?_
     refine zT 10 rfl (Qz rfl rfl rfl) hD ?_
     refine zT 11 rfl (Qv rfl) hD ?_
     refine Ql kA ?_
     refine Qt ?_
     have hft:=zrM hk1 hkp
     refine Qj ?_
     exact zm (h:=⟨_,_,rfl,hKb4,rfl,hin,hft⟩)
    refine zpb [(0,_)] [Zh x.lm] VB (fun b_176=>?_)
    refine Qb ?_
    refine zD hD ?_
    refine qd 0 rfl ?_
    refine zpb [] [] VB (fun b_169=>?_)
    refine Qb ?_
    refine zD hD ?_
    refine qd 4 rfl ?_
    refine zpa (_) (((wLm xs).take k).flatMap Zh) ([(b_169,_)]) rfl rfl VB ZW.new ((hS1.take hk).src Yx) (zap _) ?_
    intro v1 L1 hO1 _;rw [List.nil_append] at hO1
    refine Qb ?_
    refine zD hD ?_
    refine qd 8 rfl ?_
    refine zpa (v1) ([x.lm].flatMap Zh) (L1) rfl rfl VB hO1 ⟨rfl,fun _=>rfl,by repeat (first | exact zz2 | apply zz1 | apply zz3)⟩ (zap [x.lm]) ?_
    intro v2 L2 hO2 _
    refine Qb ?_
    refine zD hD ?_
    refine qd 9 rfl ?_
    refine Yv (xs:=(wLm xs).take k++[x.lm]) kK Yx kD (by repeat (first | exact .cons .here .nil | exact Zk | exact Q0 | apply Q9 | apply Q5)) (fun I12 hI12 af12 cf12 ef12 hZ=>?_)
    subst ef12
    have hKb4:=hKb4.trans hI12;have hD:=hD.trans hI12
    refine qcV (vs:=[_]) rfl zbz (zb2 hZ kB) ?_
    refine Qb ?_
    refine zD hD ?_
    refine zT 10 rfl (Qz rfl rfl rfl) hD ?_
    refine zT 11 rfl (Qv rfl) hD ?_
    refine Ql kA ?_
    refine Qt ?_
    have hft:=zrM hk1 hkp
    refine Qj ?_
    exact zm (h:=⟨_,_,rfl,hKb4,rfl,hin,hft⟩)
   have hk1:¬x.kind=1:=by simpa using hc137
   refine zR (zC ?_)
   refine zA (zN ?_)
   refine zI ?_ ?_<;>intro hc180
   ·
    have hk3:x.kind=3:=by simpa using hc180
    refine zR (zA (zN ?_))
    refine zY [(1,_),(3,_),(4,_),(5,_),(6,_),(8,_),(10,_),(11,_),(62,_),(63,_),(64,_)] (fun T L0 E I' loc'=>∃ (k:Nat),E=(17,.int .i64 k)::T∧HLe J5 I'∧L0=loc'∧VH (·.no) (wLs xs) x.ls.no=k∧k≤n2) ?_ ?_
    ·
     have hK9:=zz4 J5
     refine Qx ?_
     refine zU [(1,_),(3,_),(4,_),(5,_),(6,_),(8,_),(10,_),(11,_),(62,_),(63,_),(64,_)] (fun T L0 mz E I' loc'=>∃ (k:Nat),mz=n2-k∧E=(17,.int .i64 k)::T∧HLe J5 I'∧L0=loc'∧k≤n2∧(∀ (j:Nat) (y:_),j<k→(wLs xs)[j]? =some y→y.no<x.ls.no)) ?_ (h:=⟨0,rfl,rfl,zz4 _,rfl,Nat.zero_le _,fun j y h=>absurd h (Nat.not_lt_zero _)⟩)
     rintro mz E J13 loc' ⟨k,rfl,rfl,hJ,rfl,hk,hall⟩
     have hS2:=hS2.mono hJ;have h10:=h10.mono hJ;have hK9:=hK9.trans hJ
     have hB9:=hJ
     refine Qo (Qo ?_)
     rcases Nat.lt_or_ge k n2 with hkn | hkn
     ·
      obtain ⟨y,hy⟩:∃ y,(wLs xs)[k]? =some y:=⟨_,List.getElem?_eq_getElem kB⟩
      have hD:=zz4 J13
      refine Vq mixed ?_
      refine zT 0 rfl (Qe rfl) hD ?_
      refine zT 1 rfl (Qe rfl) hD ?_
      refine zT 2 rfl (QU rfl Vz) hD ?_
      refine zT 3 rfl (Qz rfl rfl rfl) hD ?_
      rw [show decide (((k:Nat):Int)<((n2:Nat):Int))=true by simp;omega]
      refine zT 4 rfl (Qe rfl) hD ?_
      refine zw 5 186 rfl (Qe rfl) hD ?_
      refine zw 6 186 rfl (Qe rfl) hD ?_
      refine zw 7 186 rfl (zX Vz hS2) hD ?_
      refine zw 8 186 rfl (Qa rfl VP) hD ?_
      refine zw 9 186 rfl (Qc rfl Qm (fun hg=>by exact zzX hS2 hy rfl)) hD ?_
      refine zw 10 186 rfl (Qa rfl Y7) hD ?_
      refine zw 11 186 rfl (Qa rfl VP) hD ?_
      refine zw 12 186 rfl (Qc rfl Qm (fun hg=>by exact QA.imm h10.out rfl)) hD ?_
      refine zw 13 186 rfl (Qz rfl rfl rfl) hD ?_
      refine zT 14 rfl (QW rfl rfl rfl) hD ?_
      refine Ql kA ?_
      refine Qt ?_
      refine Qd ?_
      refine zI ?_ ?_<;>intro hc196
      ·
       have hyl:y.no<x.ls.no:=by simpa using hc196
       refine Qp (Qd (Qx (Qi (zM ?_))))
       refine zB ?_
       refine zA (Qb (Qj ?_))
       exact zm (h:=⟨n2-(k+1),kB,k+1,rfl,rfl,hB9,rfl,kB,zaS hall hy hyl⟩)
      have hkp:VH (·.no) (wLs xs) x.ls.no=k:=(KT kB hall (fun z hz=>by rw [hy] at hz;cases hz;simpa using hc196)).symm
      refine Q6 (Qn (Qn (Qw ?_)))
      exact zm (h:=⟨_,rfl,hK9,rfl,hkp,hk⟩)
     have hD:=zz4 J13
     refine Vq mixed ?_
     refine zT 0 rfl (Qe rfl) hD ?_
     refine zT 1 rfl (Qe rfl) hD ?_
     refine zT 2 rfl (QU rfl Vz) hD ?_
     refine zT 3 rfl (Qz rfl rfl rfl) hD ?_
     rw [show decide (((k:Nat):Int)<((n2:Nat):Int))=false by simp;omega]
     refine zT 4 rfl (Qe rfl) hD ?_
     refine zW 5 186 hD ?_
     refine zW 6 186 hD ?_
     refine zW 7 186 hD ?_
     refine zW 8 186 hD ?_
     refine zW 9 186 hD ?_
     refine zW 10 186 hD ?_
     refine zW 11 186 hD ?_
     refine zW 12 186 hD ?_
     refine zW 13 186 hD ?_
     refine zT 14 rfl (Z6 rfl rfl rfl) hD ?_
     refine Ql kA ?_
     refine Qt ?_
     refine Qd ?_
     refine zI ?_ ?_<;>intro hc196
     ·
      cases hc196
     have hkp:VH (·.no) (wLs xs) x.ls.no=k:=(KT kB hall (fun z hz=>by have h:=(List.getElem?_eq_some_iff.1 hz).1;omega)).symm
     refine Q6 (Qn (Qn (Qw ?_)))
     exact zm (h:=⟨_,rfl,hK9,rfl,hkp,hk⟩)
    rintro E J14 loc' ⟨k,rfl,hJ5,rfl,hkp,hk⟩
    have hP:=hP.mono hJ5;have hS2:=hS2.mono hJ5;have h10:=h10.mono hJ5;have hKb4:=hKb4.trans hJ5
    refine zY [(1,_),(3,_),(4,_),(5,_),(6,_),(8,_),(10,_),(11,_),(17,_),(62,_),(63,_),(64,_)] (fun T L0 E I' loc'=>∃ (inb:Bool),E=(14,.bool inb)::T∧HLe J14 I'∧L0=loc'∧inb=tkF xs i x) ?_ ?_
    ·
     have hKc35:=zz4 J14
     rcases Nat.lt_or_ge k n2 with hkn | hkn
     ·
      obtain ⟨y,hy⟩:∃ y,(wLs xs)[k]? =some y:=⟨_,List.getElem?_eq_getElem kB⟩
      have hD:=zz4 J14
      refine Vq mixed ?_
      refine zT 0 rfl (Qe rfl) hD ?_
      refine zT 1 rfl (Qe rfl) hD ?_
      refine zT 2 rfl (QU rfl Vz) hD ?_
      refine zT 3 rfl (Qz rfl rfl rfl) hD ?_
      rw [show decide (((k:Nat):Int)<((n2:Nat):Int))=true by simp;omega]
      refine zT 4 rfl (Qe rfl) hD ?_
      refine zw 5 203 rfl (Qe rfl) hD ?_
      refine zw 6 203 rfl (Qe rfl) hD ?_
      refine zw 7 203 rfl (zX Vz hS2) hD ?_
      refine zw 8 203 rfl (Qg rfl VX (fun hg=>by exact zz5 hS2 hy) rfl) hD ?_
      refine zw 9 203 rfl (Qa rfl Y7) hD ?_
      refine zw 10 203 rfl (Qg rfl VX (fun hg=>by exact zcc (BxI.cells (vs:=Q4 x) h10)) rfl) hD ?_
      refine zw 11 203 rfl (Ue rfl rfl ze7 rfl) hD ?_
      refine zT 12 rfl (QW rfl rfl rfl) hD ?_
      refine zT 13 rfl (Qv rfl) hD ?_
      refine Ql kA ?_
      refine Qt ?_
      first
      | exact zm (h:=⟨_,rfl,hKc35,rfl,(zwn hP.nd hv hx hk3 (by rw [hkp];rw [hy];rfl)).trans (znx hk3).symm⟩)
     have hy:(wLs xs)[k]? =none:=List.getElem?_eq_none kB
     have hD:=zz4 J14
     refine Vq mixed ?_
     refine zT 0 rfl (Qe rfl) hD ?_
     refine zT 1 rfl (Qe rfl) hD ?_
     refine zT 2 rfl (QU rfl Vz) hD ?_
     refine zT 3 rfl (Qz rfl rfl rfl) hD ?_
     rw [show decide (((k:Nat):Int)<((n2:Nat):Int))=false by simp;omega]
     refine zT 4 rfl (Qe rfl) hD ?_
     refine zW 5 203 hD ?_
     refine zW 6 203 hD ?_
     refine zW 7 203 hD ?_
     refine zW 8 203 hD ?_
     refine zW 9 203 hD ?_
     refine zW 10 203 hD ?_
     refine zW 11 203 hD ?_
     refine zT 12 rfl (Z6 rfl rfl rfl) hD ?_
     refine zT 13 rfl (Qv rfl) hD ?_
     refine Ql kA ?_
     refine Qt ?_
     first
     | exact zm (h:=⟨_,rfl,hKc35,rfl,(zwn hP.nd hv hx hk3 (by rw [hkp];rw [hy];rfl)).trans (znx hk3).symm⟩)
    rintro E J15 loc' ⟨inb,rfl,hJ6,rfl,hin⟩
    have hS2:=hS2.mono hJ6;have h10:=h10.mono hJ6;have hKb4:=hKb4.trans hJ6
    have hD:=zz4 J15
    refine Zn ?_
    refine QL J15 [] mixed ?_
    refine zT 1 rfl (Qe rfl) hD ?_
    refine zT 2 rfl (Qe rfl) hD ?_
    refine zT 3 rfl (YI rfl rfl Vz (fun hg=>kB)) hD ?_
    refine zT 5 rfl (Qa rfl Y7) hD ?_
    refine zT 6 rfl (Qg rfl VX (fun hg=>by exact zcc (BxI.cells (vs:=Q4 x) h10)) rfl) hD ?_
    refine QS 0 7 rfl rfl kA ?_ ?_
    ·
     refine zpb [] [] Jl (fun b_212=>?_)
     refine Qb ?_
     refine zD hD ?_
     refine QS 4 7 rfl rfl kA ?_ ?_
     ·
      refine zpa (_) (((wLs xs).take k).flatMap L.encL) ([(b_212,_)]) rfl rfl Jl ZW.new ((hS2.take hk).src L.encL_len) (L.one_L _) ?_
      intro v1 L1 hO1 _;rw [List.nil_append] at hO1
      refine Qb ?_
      refine zD hD ?_
      refine qd 7 rfl ?_
      refine zpb [(0,_)] [L.encL x.ls] Jl (fun b_219=>?_)
      refine Qb ?_
      refine zD hD ?_
      refine qd 8 rfl ?_
      refine zpa (v1) ([x.ls].flatMap L.encL) (L1) rfl rfl Jl hO1 ⟨rfl,fun _=>rfl,by repeat (first | exact zz2 | apply zz1 | apply zz3)⟩ (L.one_L [x.ls]) ?_
      intro v2 L2 hO2 _
      refine Qb ?_
      refine zD hD ?_
      refine qd 9 rfl ?_
      refine Yv (xs:=(wLs xs).take k++[x.ls]) kK L.encL_len kD (by repeat (first | exact .cons .here .nil | exact Zk | exact Q0 | apply Q9 | apply Q5)) (fun I16 hI16 af16 cf16 ef16 hZ=>?_)
      subst ef16
      have hKb4:=hKb4.trans hI16;have hD:=hD.trans hI16
      refine qcV (vs:=[_]) rfl zcT (L.w_check hZ kB) ?_
      refine Qb ?_
      refine zD hD ?_
      refine zT 10 rfl (Qz rfl rfl rfl) hD ?_
      refine zT 11 rfl (Qv rfl) hD ?_
      refine Ql kA ?_
      refine Qt ?_
      have hft:=zsq hk3 hkp
      refine Qj ?_
      exact zm (h:=⟨_,_,rfl,hKb4,rfl,hin,hft⟩)
     refine zpb [(0,_)] [L.encL x.ls] Jl (fun b_219=>?_)
     refine Qb ?_
     refine zD hD ?_
     refine qd 4 rfl ?_
     refine zpa (_) (((wLs xs).take k).flatMap L.encL) ([(b_212,_)]) rfl rfl Jl ZW.new ((hS2.take hk).src L.encL_len) (L.one_L _) ?_
     intro v1 L1 hO1 _;rw [List.nil_append] at hO1
     refine Qb ?_
     refine zD hD ?_
     refine qd 8 rfl ?_
     refine zpa (v1) ([x.ls].flatMap L.encL) (L1) rfl rfl Jl hO1 ⟨rfl,fun _=>rfl,by repeat (first | exact zz2 | apply zz1 | apply zz3)⟩ (L.one_L [x.ls]) ?_
     intro v2 L2 hO2 _
     refine Qb ?_
     refine zD hD ?_
     refine qd 9 rfl ?_
     refine Yv (xs:=(wLs xs).take k++[x.ls]) kK L.encL_len kD (by repeat (first | exact .cons .here .nil | exact Zk | exact Q0 | apply Q9 | apply Q5)) (fun I17 hI17 af17 cf17 ef17 hZ=>?_)
     subst ef17
     have hKb4:=hKb4.trans hI17;have hD:=hD.trans hI17
     refine qcV (vs:=[_]) rfl zcT (L.w_check hZ kB) ?_
     refine Qb ?_
     refine zD hD ?_
     refine zT 10 rfl (Qz rfl rfl rfl) hD ?_
     refine zT 11 rfl (Qv rfl) hD ?_
     refine Ql kA ?_
     refine Qt ?_
     have hft:=zsq hk3 hkp
     refine Qj ?_
     exact zm (h:=⟨_,_,rfl,hKb4,rfl,hin,hft⟩)
    refine zpb [(0,_)] [L.encL x.ls] Jl (fun b_219=>?_)
    refine Qb ?_
    refine zD hD ?_
    refine qd 0 rfl ?_
    refine zpb [] [] Jl (fun b_212=>?_)
    refine Qb ?_
    refine zD hD ?_
    refine qd 4 rfl ?_
    refine zpa (_) (((wLs xs).take k).flatMap L.encL) ([(b_212,_)]) rfl rfl Jl ZW.new ((hS2.take hk).src L.encL_len) (L.one_L _) ?_
    intro v1 L1 hO1 _;rw [List.nil_append] at hO1
    refine Qb ?_
    refine zD hD ?_
    refine qd 8 rfl ?_
    refine zpa (v1) ([x.ls].flatMap L.encL) (L1) rfl rfl Jl hO1 ⟨rfl,fun _=>rfl,by repeat (first | exact zz2 | apply zz1 | apply zz3)⟩ (L.one_L [x.ls]) ?_
    intro v2 L2 hO2 _
    refine Qb ?_
    refine zD hD ?_
    refine qd 9 rfl ?_
    refine Yv (xs:=(wLs xs).take k++[x.ls]) kK L.encL_len kD (by repeat (first | exact .cons .here .nil | exact Zk | exact Q0 | apply Q9 | apply Q5)) (fun I18 hI18 af18 cf18 ef18 hZ=>?_)
    subst ef18
    have hKb4:=hKb4.trans hI18;have hD:=hD.trans hI18
    refine qcV (vs:=[_]) rfl zcT (L.w_check hZ kB) ?_
    refine Qb ?_
    refine zD hD ?_
    refine zT 10 rfl (Qz rfl rfl rfl) hD ?_
    refine zT 11 rfl (Qv rfl) hD ?_
    refine Ql kA ?_
    refine Qt ?_
    have hft:=zsq hk3 hkp
    refine Qj ?_
    exact zm (h:=⟨_,_,rfl,hKb4,rfl,hin,hft⟩)
   have hk3:¬x.kind=3:=by simpa using hc180
   refine zR (zC ?_)
   refine zA (zN ?_)
   refine zI ?_ ?_<;>intro hc223
   ·
    have hk2:x.kind=2:=by simpa using hc223
    refine zR (zA (zN ?_))
    refine zY [(1,_),(3,_),(4,_),(5,_),(6,_),(8,_),(10,_),(11,_),(62,_),(63,_),(64,_)] (fun T L0 E I' loc'=>∃ (k:Nat),E=(18,.int .i64 k)::T∧HLe J5 I'∧L0=loc'∧VH (·.id) (wPt xs) x.pt.id=k∧k≤n3) ?_ ?_
    ·
     have hK11:=zz4 J5
     refine Qx ?_
     refine zU [(1,_),(3,_),(4,_),(5,_),(6,_),(8,_),(10,_),(11,_),(62,_),(63,_),(64,_)] (fun T L0 mz E I' loc'=>∃ (k:Nat),mz=n3-k∧E=(18,.int .i64 k)::T∧HLe J5 I'∧L0=loc'∧k≤n3∧(∀ (j:Nat) (y:_),j<k→(wPt xs)[j]? =some y→y.id<x.pt.id)) ?_ (h:=⟨0,rfl,rfl,zz4 _,rfl,Nat.zero_le _,fun j y h=>absurd h (Nat.not_lt_zero _)⟩)
     rintro mz E J19 loc' ⟨k,rfl,rfl,hJ,rfl,hk,hall⟩
     have hS3:=hS3.mono hJ;have h10:=h10.mono hJ;have hK11:=hK11.trans hJ
     have hB11:=hJ
     refine Qo (Qo ?_)
     rcases Nat.lt_or_ge k n3 with hkn | hkn
     ·
      obtain ⟨y,hy⟩:∃ y,(wPt xs)[k]? =some y:=⟨_,List.getElem?_eq_getElem kB⟩
      have hD:=zz4 J19
      refine Vq mixed ?_
      refine zT 0 rfl (Qe rfl) hD ?_
      refine zT 1 rfl (Qe rfl) hD ?_
      refine zT 2 rfl (QU rfl YW) hD ?_
      refine zT 3 rfl (Qz rfl rfl rfl) hD ?_
      rw [show decide (((k:Nat):Int)<((n3:Nat):Int))=true by simp;omega]
      refine zT 4 rfl (Qe rfl) hD ?_
      refine zw 5 229 rfl (Qe rfl) hD ?_
      refine zw 6 229 rfl (Qe rfl) hD ?_
      refine zw 7 229 rfl (QE rfl rfl YW hS3.1 (fun hg=>kB)) hD ?_
      refine zw 8 229 rfl (Qa rfl ZJ) hD ?_
      refine zw 9 229 rfl (Qc rfl Qm (fun hg=>by exact zzX hS3.1 hy rfl)) hD ?_
      refine zw 10 229 rfl (Qa rfl ZZ) hD ?_
      refine zw 11 229 rfl (Qa rfl ZJ) hD ?_
      refine zw 12 229 rfl (Qc rfl Qm (fun hg=>by exact QA.imm h10.out rfl)) hD ?_
      refine zw 13 229 rfl (Qz rfl rfl rfl) hD ?_
      refine zT 14 rfl (QW rfl rfl rfl) hD ?_
      refine Ql kA ?_
      refine Qt ?_
      refine Qd ?_
      refine zI ?_ ?_<;>intro hc239
      ·
       have hyl:y.id<x.pt.id:=by simpa using hc239
       refine Qp (Qd (Qx (Qi (zM ?_))))
       refine zB ?_
       refine zA (Qb (Qj ?_))
       exact zm (h:=⟨n3-(k+1),kB,k+1,rfl,rfl,hB11,rfl,kB,zaS hall hy hyl⟩)
      have hkp:VH (·.id) (wPt xs) x.pt.id=k:=(KT kB hall (fun z hz=>by rw [hy] at hz;cases hz;simpa using hc239)).symm
      refine Q6 (Qn (Qn (Qw ?_)))
      exact zm (h:=⟨_,rfl,hK11,rfl,hkp,hk⟩)
     have hD:=zz4 J19
     refine Vq mixed ?_
     refine zT 0 rfl (Qe rfl) hD ?_
     refine zT 1 rfl (Qe rfl) hD ?_
     refine zT 2 rfl (QU rfl YW) hD ?_
     refine zT 3 rfl (Qz rfl rfl rfl) hD ?_
     rw [show decide (((k:Nat):Int)<((n3:Nat):Int))=false by simp;omega]
     refine zT 4 rfl (Qe rfl) hD ?_
     refine zW 5 229 hD ?_
     refine zW 6 229 hD ?_
     refine zW 7 229 hD ?_
     refine zW 8 229 hD ?_
     refine zW 9 229 hD ?_
     refine zW 10 229 hD ?_
     refine zW 11 229 hD ?_
     refine zW 12 229 hD ?_
     refine zW 13 229 hD ?_
     refine zT 14 rfl (Z6 rfl rfl rfl) hD ?_
     refine Ql kA ?_
     refine Qt ?_
     refine Qd ?_
     refine zI ?_ ?_<;>intro hc239
     ·
      cases hc239
     have hkp:VH (·.id) (wPt xs) x.pt.id=k:=(KT kB hall (fun z hz=>by have h:=(List.getElem?_eq_some_iff.1 hz).1;omega)).symm
     refine Q6 (Qn (Qn (Qw ?_)))
     exact zm (h:=⟨_,rfl,hK11,rfl,hkp,hk⟩)
    rintro E J20 loc' ⟨k,rfl,hJ5,rfl,hkp,hk⟩
    have hP:=hP.mono hJ5;have hS3:=hS3.mono hJ5;have h10:=h10.mono hJ5;have hKb4:=hKb4.trans hJ5
    refine zY [(1,_),(3,_),(4,_),(5,_),(6,_),(8,_),(10,_),(11,_),(18,_),(62,_),(63,_),(64,_)] (fun T L0 E I' loc'=>∃ (inb:Bool),E=(14,.bool inb)::T∧HLe J20 I'∧L0=loc'∧inb=tkF xs i x) ?_ ?_
    ·
     have hKc41:=zz4 J20
     rcases Nat.lt_or_ge k n3 with hkn | hkn
     ·
      obtain ⟨y,hy⟩:∃ y,(wPt xs)[k]? =some y:=⟨_,List.getElem?_eq_getElem kB⟩
      have hD:=zz4 J20
      refine Zn ?_
      refine QL J20 [] mixed ?_
      refine zT 0 rfl (Qe rfl) hD ?_
      refine zT 1 rfl (Qe rfl) hD ?_
      refine zT 2 rfl (QU rfl YW) hD ?_
      refine zT 3 rfl (Qz rfl rfl rfl) hD ?_
      rw [show decide (((k:Nat):Int)<((n3:Nat):Int))=true by simp;omega]
      refine zT 4 rfl (Qe rfl) hD ?_
      refine zw 5 246 rfl (Qe rfl) hD ?_
      refine zw 6 246 rfl (Qe rfl) hD ?_
      refine zw 7 246 rfl (Qe rfl) hD ?_
      refine zw 8 246 rfl (YE rfl rfl rfl (fun hg=>kB)) hD ?_
      refine zw 9 246 rfl (ziH rfl rfl rfl YW (fun hg=>kB)) hD ?_
      refine zw 10 246 rfl (Qa rfl ZZ) hD ?_
      refine zw 11 246 rfl (Qg rfl Y3 (fun hg=>by exact XG (BxI.cells (vs:=Q4 x) h10)) rfl) hD ?_
      refine qd 12 rfl ?_
      refine QP (dj:=246) rfl rfl rfl ?_
      refine zpb [(0,_)] [KY x.pt] JZ (fun b_254=>?_)
      refine QQ (by repeat (first | exact ZQ.here | apply ZQ.there)) (fun I21 hI21 hb21=>?_)
      have hP:=hP.mono hI21;have hS3:=hS3.mono hI21;have hKc41:=hKc41.trans hI21;have hD:=hD.trans hI21
      have hV:=Sl.lit ([x.pt]:List Pt) rfl VN (show I21 b_254=some (Obj.cells (([x.pt]:List Pt).flatMap KY).toArray 39 (0,0)) from hb21)
      refine Qb ?_
      refine zD hD ?_
      refine qd 13 rfl ?_
      refine QP (dj:=246) rfl rfl rfl ?_
      refine qcV (vs:=[_,_]) rfl zvv (zy4 ⟨Sl.part hS3.1 (Nat.le_succ k) kB,fun p hp=>hS3.2 p (List.mem_of_mem_take (List.mem_of_mem_drop hp))⟩ ⟨hV,fun p hp=>by rw [List.mem_singleton.1 hp];exact hP.nd x hxm⟩ (fun p hp=>hsm3 p (List.mem_of_mem_take (List.mem_of_mem_drop hp))) kB) ?_
      refine Qb ?_
      refine zD hD ?_
      refine zT 14 rfl (QW rfl rfl rfl) hD ?_
      refine zT 15 rfl (Qv rfl) hD ?_
      refine Ql kA ?_
      refine Qt ?_
      first
      | exact zm (h:=⟨_,rfl,hKc41,rfl,(zwS hP.nd hv hx hk2 (by rw [hkp];rw [hy];show zjp (((wPt xs).take (k+1)).drop k) [x.pt]=_;rw [znO hy];simp [zjp,zuG])).trans (zpA hk2).symm⟩)
     have hy:(wPt xs)[k]? =none:=List.getElem?_eq_none kB
     have hD:=zz4 J20
     refine Vq mixed ?_
     refine zT 0 rfl (Qe rfl) hD ?_
     refine zT 1 rfl (Qe rfl) hD ?_
     refine zT 2 rfl (QU rfl YW) hD ?_
     refine zT 3 rfl (Qz rfl rfl rfl) hD ?_
     rw [show decide (((k:Nat):Int)<((n3:Nat):Int))=false by simp;omega]
     refine zT 4 rfl (Qe rfl) hD ?_
     refine zW 5 246 hD ?_
     refine zW 6 246 hD ?_
     refine zW 7 246 hD ?_
     refine zW 8 246 hD ?_
     refine zW 9 246 hD ?_
     refine zW 10 246 hD ?_
     refine zW 11 246 hD ?_
     refine zW 12 246 hD ?_
     refine zW 13 246 hD ?_
     refine zT 14 rfl (Z6 rfl rfl rfl) hD ?_
     refine zT 15 rfl (Qv rfl) hD ?_
     refine Ql kA ?_
     refine Qt ?_
     first
     | exact zm (h:=⟨_,rfl,hKc41,rfl,(zwS hP.nd hv hx hk2 (by rw [hkp];rw [hy];rfl)).trans (zpA hk2).symm⟩)
    rintro E J22 loc' ⟨inb,rfl,hJ6,rfl,hin⟩
    have hP:=hP.mono hJ6;have hS3:=hS3.mono hJ6;have h10:=h10.mono hJ6;have hKb4:=hKb4.trans hJ6
    have hD:=zz4 J22
    refine Zn ?_
    refine QL J22 [] mixed ?_
    refine zT 1 rfl (Qe rfl) hD ?_
    refine zT 2 rfl (Qe rfl) hD ?_
    refine zT 3 rfl (YI rfl rfl YW (fun hg=>kB)) hD ?_
    refine zT 5 rfl (Qa rfl ZZ) hD ?_
    refine zT 6 rfl (Qg rfl Y3 (fun hg=>by exact XG (BxI.cells (vs:=Q4 x) h10)) rfl) hD ?_
    refine QS 0 7 rfl rfl kA ?_ ?_
    ·
     refine zpb [] [] JZ (fun b_257=>?_)
     refine Qb ?_
     refine zD hD ?_
     refine QS 4 7 rfl rfl kA ?_ ?_
     ·
      refine zpa (_) (((wPt xs).take k).flatMap KY) ([(b_257,_)]) rfl rfl JZ ZW.new ((hS3.1.take hk).src VN) (ziW _) ?_
      intro v1 L1 hO1 _;rw [List.nil_append] at hO1
      refine Qb ?_
      refine zD hD ?_
      refine qd 7 rfl ?_
      refine zpb [(0,_)] [KY x.pt] JZ (fun b_264=>?_)
      refine Qb ?_
      refine zD hD ?_
      refine qd 8 rfl ?_
      refine zpa (v1) ([x.pt].flatMap KY) (L1) rfl rfl JZ hO1 ⟨rfl,fun _=>rfl,by repeat (first | exact zz2 | apply zz1 | apply zz3)⟩ (ziW [x.pt]) ?_
      intro v2 L2 hO2 _
      refine Qb ?_
      refine zD hD ?_
      refine qd 9 rfl ?_
      refine Yv (xs:=(wPt xs).take k++[x.pt]) kK VN kD (by repeat (first | exact .cons .here .nil | exact Zk | exact Q0 | apply Q9 | apply Q5)) (fun I23 hI23 af23 cf23 ef23 hZ=>?_)
      subst ef23
      have hP:=hP.mono hI23;have hS3:=hS3.mono hI23;have hKb4:=hKb4.trans hI23;have hD:=hD.trans hI23
      have hNz:∀ p∈(wPt xs).take k++[x.pt],Nd I23 p:=fun p hp=>(List.mem_append.1 hp).elim (fun h=>hS3.2 p (List.mem_of_mem_take h)) (fun h=>by rw [List.mem_singleton.1 h];exact hP.nd x hxm)
      refine qcV (vs:=[_]) rfl zeU (zfs ⟨hZ,hNz⟩ kB) ?_
      refine Qb ?_
      refine zD hD ?_
      refine zT 10 rfl (Qz rfl rfl rfl) hD ?_
      refine zT 11 rfl (Qv rfl) hD ?_
      refine Ql kA ?_
      refine Qt ?_
      have hft:=zrK hk2 hkp
      refine Qj ?_
      exact zm (h:=⟨_,_,rfl,hKb4,rfl,hin,hft⟩)
     refine zpb [(0,_)] [KY x.pt] JZ (fun b_264=>?_)
     refine Qb ?_
     refine zD hD ?_
     refine qd 4 rfl ?_
     refine zpa (_) (((wPt xs).take k).flatMap KY) ([(b_257,_)]) rfl rfl JZ ZW.new ((hS3.1.take hk).src VN) (ziW _) ?_
     intro v1 L1 hO1 _;rw [List.nil_append] at hO1
     refine Qb ?_
     refine zD hD ?_
     refine qd 8 rfl ?_
     refine zpa (v1) ([x.pt].flatMap KY) (L1) rfl rfl JZ hO1 ⟨rfl,fun _=>rfl,by repeat (first | exact zz2 | apply zz1 | apply zz3)⟩ (ziW [x.pt]) ?_
     intro v2 L2 hO2 _
     refine Qb ?_
     refine zD hD ?_
     refine qd 9 rfl ?_
     refine Yv (xs:=(wPt xs).take k++[x.pt]) kK VN kD (by repeat (first | exact .cons .here .nil | exact Zk | exact Q0 | apply Q9 | apply Q5)) (fun I24 hI24 af24 cf24 ef24 hZ=>?_)
     subst ef24
     have hP:=hP.mono hI24;have hS3:=hS3.mono hI24;have hKb4:=hKb4.trans hI24;have hD:=hD.trans hI24
     have hNz:∀ p∈(wPt xs).take k++[x.pt],Nd I24 p:=fun p hp=>(List.mem_append.1 hp).elim (fun h=>hS3.2 p (List.mem_of_mem_take h)) (fun h=>by rw [List.mem_singleton.1 h];exact hP.nd x hxm)
     refine qcV (vs:=[_]) rfl zeU (zfs ⟨hZ,hNz⟩ kB) ?_
     refine Qb ?_
     refine zD hD ?_
     refine zT 10 rfl (Qz rfl rfl rfl) hD ?_
     refine zT 11 rfl (Qv rfl) hD ?_
     refine Ql kA ?_
     refine Qt ?_
     have hft:=zrK hk2 hkp
     refine Qj ?_
     exact zm (h:=⟨_,_,rfl,hKb4,rfl,hin,hft⟩)
    refine zpb [(0,_)] [KY x.pt] JZ (fun b_264=>?_)
    refine Qb ?_
    refine zD hD ?_
    refine qd 0 rfl ?_
    refine zpb [] [] JZ (fun b_257=>?_)
    refine Qb ?_
    refine zD hD ?_
    refine qd 4 rfl ?_
    refine zpa (_) (((wPt xs).take k).flatMap KY) ([(b_257,_)]) rfl rfl JZ ZW.new ((hS3.1.take hk).src VN) (ziW _) ?_
    intro v1 L1 hO1 _;rw [List.nil_append] at hO1
    refine Qb ?_
    refine zD hD ?_
    refine qd 8 rfl ?_
    refine zpa (v1) ([x.pt].flatMap KY) (L1) rfl rfl JZ hO1 ⟨rfl,fun _=>rfl,by repeat (first | exact zz2 | apply zz1 | apply zz3)⟩ (ziW [x.pt]) ?_
    intro v2 L2 hO2 _
    refine Qb ?_
    refine zD hD ?_
    refine qd 9 rfl ?_
    refine Yv (xs:=(wPt xs).take k++[x.pt]) kK VN kD (by repeat (first | exact .cons .here .nil | exact Zk | exact Q0 | apply Q9 | apply Q5)) (fun I25 hI25 af25 cf25 ef25 hZ=>?_)
    subst ef25
    have hP:=hP.mono hI25;have hS3:=hS3.mono hI25;have hKb4:=hKb4.trans hI25;have hD:=hD.trans hI25
    have hNz:∀ p∈(wPt xs).take k++[x.pt],Nd I25 p:=fun p hp=>(List.mem_append.1 hp).elim (fun h=>hS3.2 p (List.mem_of_mem_take h)) (fun h=>by rw [List.mem_singleton.1 h];exact hP.nd x hxm)
    refine qcV (vs:=[_]) rfl zeU (zfs ⟨hZ,hNz⟩ kB) ?_
    refine Qb ?_
    refine zD hD ?_
    refine zT 10 rfl (Qz rfl rfl rfl) hD ?_
    refine zT 11 rfl (Qv rfl) hD ?_
    refine Ql kA ?_
    refine Qt ?_
    have hft:=zrK hk2 hkp
    refine Qj ?_
    exact zm (h:=⟨_,_,rfl,hKb4,rfl,hin,hft⟩)
   have hk2:¬x.kind=2:=by simpa using hc223
   have hk4:x.kind=4:=kB
   refine zR (zA (zN ?_))
   refine zY [(1,_),(3,_),(4,_),(5,_),(6,_),(8,_),(10,_),(11,_),(62,_),(63,_),(64,_)] (fun T L0 E I' loc'=>∃ (k:Nat),E=(19,.int .i64 k)::T∧HLe J5 I'∧L0=loc'∧VH (·.no) (wRt xs) x.rt.no=k∧k≤n4) ?_ ?_
   ·
    have hK5:=zz4 J5
    refine Qx ?_
    refine zU [(1,_),(3,_),(4,_),(5,_),(6,_),(8,_),(10,_),(11,_),(62,_),(63,_),(64,_)] (fun T L0 mz E I' loc'=>∃ (k:Nat),mz=n4-k∧E=(19,.int .i64 k)::T∧HLe J5 I'∧L0=loc'∧k≤n4∧(∀ (j:Nat) (y:_),j<k→(wRt xs)[j]? =some y→y.no<x.rt.no)) ?_ (h:=⟨0,rfl,rfl,zz4 _,rfl,Nat.zero_le _,fun j y h=>absurd h (Nat.not_lt_zero _)⟩)
    rintro mz E J26 loc' ⟨k,rfl,rfl,hJ,rfl,hk,hall⟩
    have hS4:=hS4.mono hJ;have h10:=h10.mono hJ;have hK5:=hK5.trans hJ
    have hB5:=hJ
    refine Qo (Qo ?_)
    rcases Nat.lt_or_ge k n4 with hkn | hkn
    ·
     obtain ⟨y,hy⟩:∃ y,(wRt xs)[k]? =some y:=⟨_,List.getElem?_eq_getElem kB⟩
     have hD:=zz4 J26
     refine Vq mixed ?_
     refine zT 0 rfl (Qe rfl) hD ?_
     refine zT 1 rfl (Qe rfl) hD ?_
     refine zT 2 rfl (QU rfl ZH) hD ?_
     refine zT 3 rfl (Qz rfl rfl rfl) hD ?_
     rw [show decide (((k:Nat):Int)<((n4:Nat):Int))=true by simp;omega]
     refine zT 4 rfl (Qe rfl) hD ?_
     refine zw 5 100 rfl (Qe rfl) hD ?_
     refine zw 6 100 rfl (Qe rfl) hD ?_
     refine zw 7 100 rfl (zX ZH hS4) hD ?_
     refine zw 8 100 rfl (Qa rfl Yp) hD ?_
     refine zw 9 100 rfl (Qc rfl Qm (fun hg=>by exact zzX hS4 hy rfl)) hD ?_
     refine zw 10 100 rfl (Qa rfl Z0) hD ?_
     refine zw 11 100 rfl (Qa rfl Yp) hD ?_
     refine zw 12 100 rfl (Qc rfl Qm (fun hg=>by exact QA.imm h10.out rfl)) hD ?_
     refine zw 13 100 rfl (Qz rfl rfl rfl) hD ?_
     refine zT 14 rfl (QW rfl rfl rfl) hD ?_
     refine Ql kA ?_
     refine Qt ?_
     refine Qd ?_
     refine zI ?_ ?_<;>intro hc110
     ·
      have hyl:y.no<x.rt.no:=by simpa using hc110
      refine Qp (Qd (Qx (Qi (zM ?_))))
      refine zB ?_
      refine zA (Qb (Qj ?_))
      exact zm (h:=⟨n4-(k+1),kB,k+1,rfl,rfl,hB5,rfl,kB,zaS hall hy hyl⟩)
     have hkp:VH (·.no) (wRt xs) x.rt.no=k:=(KT kB hall (fun z hz=>by rw [hy] at hz;cases hz;simpa using hc110)).symm
     refine Q6 (Qn (Qn (Qw ?_)))
     exact zm (h:=⟨_,rfl,hK5,rfl,hkp,hk⟩)
    have hD:=zz4 J26
    refine Vq mixed ?_
    refine zT 0 rfl (Qe rfl) hD ?_
    refine zT 1 rfl (Qe rfl) hD ?_
    refine zT 2 rfl (QU rfl ZH) hD ?_
    refine zT 3 rfl (Qz rfl rfl rfl) hD ?_
    rw [show decide (((k:Nat):Int)<((n4:Nat):Int))=false by simp;omega]
    refine zT 4 rfl (Qe rfl) hD ?_
    refine zW 5 100 hD ?_
    refine zW 6 100 hD ?_
    refine zW 7 100 hD ?_
    refine zW 8 100 hD ?_
    refine zW 9 100 hD ?_
    refine zW 10 100 hD ?_
    refine zW 11 100 hD ?_
    refine zW 12 100 hD ?_
    refine zW 13 100 hD ?_
    refine zT 14 rfl (Z6 rfl rfl rfl) hD ?_
    refine Ql kA ?_
    refine Qt ?_
    refine Qd ?_
    refine zI ?_ ?_<;>intro hc110
    ·
     cases hc110
    have hkp:VH (·.no) (wRt xs) x.rt.no=k:=(KT kB hall (fun z hz=>by have h:=(List.getElem?_eq_some_iff.1 hz).1;omega)).symm
    refine Q6 (Qn (Qn (Qw ?_)))
    exact zm (h:=⟨_,rfl,hK5,rfl,hkp,hk⟩)
   rintro E J27 loc' ⟨k,rfl,hJ5,rfl,hkp,hk⟩
   have hP:=hP.mono hJ5;have hS4:=hS4.mono hJ5;have h10:=h10.mono hJ5;have hKb4:=hKb4.trans hJ5
   refine zY [(1,_),(3,_),(4,_),(5,_),(6,_),(8,_),(10,_),(11,_),(19,_),(62,_),(63,_),(64,_)] (fun T L0 E I' loc'=>∃ (inb:Bool),E=(14,.bool inb)::T∧HLe J27 I'∧L0=loc'∧inb=tkF xs i x) ?_ ?_
   ·
    have hKc23:=zz4 J27
    rcases Nat.lt_or_ge k n4 with hkn | hkn
    ·
     obtain ⟨y,hy⟩:∃ y,(wRt xs)[k]? =some y:=⟨_,List.getElem?_eq_getElem kB⟩
     have hD:=zz4 J27
     refine Vq mixed ?_
     refine zT 0 rfl (Qe rfl) hD ?_
     refine zT 1 rfl (Qe rfl) hD ?_
     refine zT 2 rfl (QU rfl ZH) hD ?_
     refine zT 3 rfl (Qz rfl rfl rfl) hD ?_
     rw [show decide (((k:Nat):Int)<((n4:Nat):Int))=true by simp;omega]
     refine zT 4 rfl (Qe rfl) hD ?_
     refine zw 5 117 rfl (Qe rfl) hD ?_
     refine zw 6 117 rfl (Qe rfl) hD ?_
     refine zw 7 117 rfl (zX ZH hS4) hD ?_
     refine zw 8 117 rfl (Qg rfl Ys (fun hg=>by exact zz5 hS4 hy) rfl) hD ?_
     refine zw 9 117 rfl (Qa rfl Z0) hD ?_
     refine zw 10 117 rfl (Qg rfl Ys (fun hg=>by exact zbs (BxI.cells (vs:=Q4 x) h10)) rfl) hD ?_
     refine zw 11 117 rfl (Ue rfl rfl XA rfl) hD ?_
     refine zT 12 rfl (QW rfl rfl rfl) hD ?_
     refine zT 13 rfl (Qv rfl) hD ?_
     refine Ql kA ?_
     refine Qt ?_
     first
     | exact zm (h:=⟨_,rfl,hKc23,rfl,(zvX hP.nd hv hx hk4 (by rw [hkp];rw [hy];rfl)).trans (znE hk4).symm⟩)
    have hy:(wRt xs)[k]? =none:=List.getElem?_eq_none kB
    have hD:=zz4 J27
    refine Vq mixed ?_
    refine zT 0 rfl (Qe rfl) hD ?_
    refine zT 1 rfl (Qe rfl) hD ?_
    refine zT 2 rfl (QU rfl ZH) hD ?_
    refine zT 3 rfl (Qz rfl rfl rfl) hD ?_
    rw [show decide (((k:Nat):Int)<((n4:Nat):Int))=false by simp;omega]
    refine zT 4 rfl (Qe rfl) hD ?_
    refine zW 5 117 hD ?_
    refine zW 6 117 hD ?_
    refine zW 7 117 hD ?_
    refine zW 8 117 hD ?_
    refine zW 9 117 hD ?_
    refine zW 10 117 hD ?_
    refine zW 11 117 hD ?_
    refine zT 12 rfl (Z6 rfl rfl rfl) hD ?_
    refine zT 13 rfl (Qv rfl) hD ?_
    refine Ql kA ?_
    refine Qt ?_
    first
    | exact zm (h:=⟨_,rfl,hKc23,rfl,(zvX hP.nd hv hx hk4 (by rw [hkp];rw [hy];rfl)).trans (znE hk4).symm⟩)
   rintro E J28 loc' ⟨inb,rfl,hJ6,rfl,hin⟩
   have hS4:=hS4.mono hJ6;have h10:=h10.mono hJ6;have hKb4:=hKb4.trans hJ6
   have hD:=zz4 J28
   refine Zn ?_
   refine QL J28 [] mixed ?_
   refine zT 1 rfl (Qe rfl) hD ?_
   refine zT 2 rfl (Qe rfl) hD ?_
   refine zT 3 rfl (YI rfl rfl ZH (fun hg=>kB)) hD ?_
   refine zT 5 rfl (Qa rfl Z0) hD ?_
   refine zT 6 rfl (Qg rfl Ys (fun hg=>by exact zbs (BxI.cells (vs:=Q4 x) h10)) rfl) hD ?_
   refine QS 0 7 rfl rfl kA ?_ ?_
   ·
    refine zpb [] [] VA (fun b_126=>?_)
    refine Qb ?_
    refine zD hD ?_
    refine QS 4 7 rfl rfl kA ?_ ?_
    ·
     refine zpa (_) (((wRt xs).take k).flatMap S.encR) ([(b_126,_)]) rfl rfl VA ZW.new ((hS4.take hk).src S.encR_len) (zab _) ?_
     intro v1 L1 hO1 _;rw [List.nil_append] at hO1
     refine Qb ?_
     refine zD hD ?_
     refine qd 7 rfl ?_
     refine zpb [(0,_)] [S.encR x.rt] VA (fun b_133=>?_)
     refine Qb ?_
     refine zD hD ?_
     refine qd 8 rfl ?_
     refine zpa (v1) ([x.rt].flatMap S.encR) (L1) rfl rfl VA hO1 ⟨rfl,fun _=>rfl,by repeat (first | exact zz2 | apply zz1 | apply zz3)⟩ (zab [x.rt]) ?_
     intro v2 L2 hO2 _
     refine Qb ?_
     refine zD hD ?_
     refine qd 9 rfl ?_
     refine Yv (xs:=(wRt xs).take k++[x.rt]) kK S.encR_len kD (by repeat (first | exact .cons .here .nil | exact Zk | exact Q0 | apply Q9 | apply Q5)) (fun I29 hI29 af29 cf29 ef29 hZ=>?_)
     subst ef29
     have hKb4:=hKb4.trans hI29;have hD:=hD.trans hI29
     refine qcV (vs:=[_]) rfl zb0 (S.w_check hZ kB) ?_
     refine Qb ?_
     refine zD hD ?_
     refine zT 10 rfl (Qz rfl rfl rfl) hD ?_
     refine zT 11 rfl (Qv rfl) hD ?_
     refine Ql kA ?_
     refine Qt ?_
     have hft:=zsI hk4 hkp
     refine Qj ?_
     exact zm (h:=⟨_,_,rfl,hKb4,rfl,hin,hft⟩)
    refine zpb [(0,_)] [S.encR x.rt] VA (fun b_133=>?_)
    refine Qb ?_
    refine zD hD ?_
    refine qd 4 rfl ?_
    refine zpa (_) (((wRt xs).take k).flatMap S.encR) ([(b_126,_)]) rfl rfl VA ZW.new ((hS4.take hk).src S.encR_len) (zab _) ?_
    intro v1 L1 hO1 _;rw [List.nil_append] at hO1
    refine Qb ?_
    refine zD hD ?_
    refine qd 8 rfl ?_
    refine zpa (v1) ([x.rt].flatMap S.encR) (L1) rfl rfl VA hO1 ⟨rfl,fun _=>rfl,by repeat (first | exact zz2 | apply zz1 | apply zz3)⟩ (zab [x.rt]) ?_
    intro v2 L2 hO2 _
    refine Qb ?_
    refine zD hD ?_
    refine qd 9 rfl ?_
    refine Yv (xs:=(wRt xs).take k++[x.rt]) kK S.encR_len kD (by repeat (first | exact .cons .here .nil | exact Zk | exact Q0 | apply Q9 | apply Q5)) (fun I30 hI30 af30 cf30 ef30 hZ=>?_)
    subst ef30
    have hKb4:=hKb4.trans hI30;have hD:=hD.trans hI30
    refine qcV (vs:=[_]) rfl zb0 (S.w_check hZ kB) ?_
    refine Qb ?_
    refine zD hD ?_
    refine zT 10 rfl (Qz rfl rfl rfl) hD ?_
    refine zT 11 rfl (Qv rfl) hD ?_
    refine Ql kA ?_
    refine Qt ?_
    have hft:=zsI hk4 hkp
    refine Qj ?_
    exact zm (h:=⟨_,_,rfl,hKb4,rfl,hin,hft⟩)
   refine zpb [(0,_)] [S.encR x.rt] VA (fun b_133=>?_)
   refine Qb ?_
   refine zD hD ?_
   refine qd 0 rfl ?_
   refine zpb [] [] VA (fun b_126=>?_)
   refine Qb ?_
   refine zD hD ?_
   refine qd 4 rfl ?_
   refine zpa (_) (((wRt xs).take k).flatMap S.encR) ([(b_126,_)]) rfl rfl VA ZW.new ((hS4.take hk).src S.encR_len) (zab _) ?_
   intro v1 L1 hO1 _;rw [List.nil_append] at hO1
   refine Qb ?_
   refine zD hD ?_
   refine qd 8 rfl ?_
   refine zpa (v1) ([x.rt].flatMap S.encR) (L1) rfl rfl VA hO1 ⟨rfl,fun _=>rfl,by repeat (first | exact zz2 | apply zz1 | apply zz3)⟩ (zab [x.rt]) ?_
   intro v2 L2 hO2 _
   refine Qb ?_
   refine zD hD ?_
   refine qd 9 rfl ?_
   refine Yv (xs:=(wRt xs).take k++[x.rt]) kK S.encR_len kD (by repeat (first | exact .cons .here .nil | exact Zk | exact Q0 | apply Q9 | apply Q5)) (fun I31 hI31 af31 cf31 ef31 hZ=>?_)
   subst ef31
   have hKb4:=hKb4.trans hI31;have hD:=hD.trans hI31
   refine qcV (vs:=[_]) rfl zb0 (S.w_check hZ kB) ?_
   refine Qb ?_
   refine zD hD ?_
   refine zT 10 rfl (Qz rfl rfl rfl) hD ?_
   refine zT 11 rfl (Qv rfl) hD ?_
   refine Ql kA ?_
   refine Qt ?_
   have hft:=zsI hk4 hkp
   refine Qj ?_
   exact zm (h:=⟨_,_,rfl,hKb4,rfl,hin,hft⟩)
  rintro E J32 loc' ⟨inb,ftb,rfl,hJ7,rfl,hin,hft2⟩
  have hB0:=hB0.trans hJ7
  refine Qo (zR (zM ?_))
  refine zM ?_
  refine zM ?_
  refine Qq 2 rfl rfl rfl ?_
  refine zK (Qe rfl) ?_
  refine QB rfl rfl rfl rfl rfl ?_
  refine zV (zoO rfl rfl zst) ?_
  refine zN ?_
  refine zI ?_ ?_<;>intro hc273
  ·
   rw [hin,hft2,hfst] at hc273
   simp [tkF] at hc273
  refine Qp (Qd (zR (zM (zN ?_))))
  refine zI ?_ ?_<;>intro hc274
  ·
   have hcn:tk+1=((znp xs (i+1):Nat):Int):=by rw [zeu hx,if_pos (hin.symm.trans hc274),htk];omega
   refine Qi (zM ?_)
   refine zB ?_
   refine zA (Qb (Qj (Qd (Qi ?_))))
   refine zB ?_
   refine zM (Qb ?_)
   exact zm (h:=⟨n-(i+1),kB,i+1,_,rfl,rfl,hB0,rfl,kB,hcn⟩)
  have hcn:tk=((znp xs (i+1):Nat):Int):=by rw [zeu hx,if_neg (by rw [←hin,hc274];simp),htk];omega
  refine Qp (Qj (Qd (Qi (zB ?_))))
  refine zM (Qb ?_)
  exact zm (h:=⟨n-(i+1),kB,i+1,_,rfl,rfl,hB0,rfl,kB,hcn⟩)
 have hge_i:n≤i:=by have h:=hc65;simp at h;omega
 obtain rfl:n=i:=kB
 have htot:((znp xs xs.length:Nat):Int)=(((n1:Nat):Int)+((n2:Nat):Int))+((n3:Nat):Int)+((n4:Nat):Int):=by rw [zn1 hv];omega
 refine Q6 (Qn (Qn (Qw (Qd (zR (zM ?_))))))
 refine zM ?_
 refine zQ Zx ?_
 refine zM ?_
 refine zQ Vz ?_
 refine zB ?_
 refine zM ?_
 refine zQ YW ?_
 refine zB ?_
 refine zM ?_
 refine zQ ZH ?_
 refine zB ?_
 refine zC ?_
 refine zA (zN (Qs ?_))
 first
 | exact Qy rfl rfl (fun w hw=>⟨by rw [htk,←hln,htot];simp,(hw.mono hIc).subL QC⟩)
end
end Go.Proofs.YtjblkbkmblkgoaaGreat
namespace Go.Kn
section
open Go Go.ChangeShapes Go.WideShapes Go.ChangeAt Go.RowKit
def zfb (W:World):Qu:=fun b=>W.heap[b]?
theorem St.start (W:World):St W (zfb W) (fun _=>none) [] W:=
 ⟨rfl,rfl,rfl,⟨Nat.le_refl _,Nat.le_refl _⟩,fun _ _ h=>h,(fun _ _ h=>by cases h),(fun _ _ h=>by cases h),fun _=>.inr rfl,(fun _ _ h=>by cases h),by simp⟩
theorem St.below {W w:World}{H:Qu}{loc:Loc}(h:St W (zfb W) H loc w):Below W.heap.size W w:=
 ⟨h.os,h.tape,h.out,h.size.1,fun k hk=>by
  have e:W.heap[k]? =some W.heap[k]:=Array.getElem?_eq_getElem hk
  rw [h.imm k _ e,e]⟩
theorem ZA.law {P:Program}{f:FuncId}{args:List Value}{W:World}{v:Value}(h:ZA P f args (zfb W) v):Calls P f args.toArray W fun e w'=>e= .returned v∧Below W.heap.size W w':=
 (h W _ W (St.start W)).mono fun _ _ ⟨he,hs⟩=>⟨he,hs.below⟩
theorem zdO {W w:World}{may:MemPlace→Prop}(h:Below W.heap.size W w):W.keptBut w may:=by
 refine ⟨h.os,h.output,fun i hi=>?_⟩
 rw [h.block i hi]
 rw [Array.getElem?_eq_getElem hi]
 cases W.heap[i]<;>simp
theorem Xn {H:Type}{enc:TypeId×Value→H}{P:Program}{W W':World}(hl:laidOutB P=true)(hB:Below W.heap.size W W')(sp:Nat→Bool):∀ (ts:List TypeId) (vs:List Value) (ds:List (DataW H)) (ps:List MemPlace),(∀ t∈ts,P.readableRec t=true∧t<P.types.size)→
  DataW.TrodAll enc P W 0 (fun _=>true) true ts vs ds ps→(∀ x∈ps,x.block<W.heap.size∧sp x.block=true)→DataW.TrodAll enc P W' 0 sp true ts vs ds ps
 | [],[],[],ps,_,h,_=>h
 | t::ts,v::vs,d::ds,ps,hr,⟨p,q,h1,h2,e⟩,hlt=>by
  subst e
  exact ⟨p,q,WideElems.Trod_stays hl (hr t (List.mem_cons_self ..)).1 (hr t (List.mem_cons_self ..)).2 h1 (fun x hx=>hB.same (hlt x (List.mem_append_left _ hx)).1) (fun x hx=>(hlt x (List.mem_append_left _ hx)).2),
   Xn hl hB sp ts vs ds q (fun t ht=>hr t (List.mem_cons_of_mem _ ht)) h2 (fun x hx=>hlt x (List.mem_append_right _ hx)),rfl⟩
theorem zo9 {H:Type}{enc:TypeId×Value→H}{P:Program}{f:Func}{s:ChangeSpec}{again:Bool}{W W':World}{args:Array Value}{ds:List (DataW H)}{before:List MemPlace}{tb:TypeId}
  (hl:laidOutB P=true)(hr:f.resultTypes= #[tb])(hb:P.underlying tb=some .bool)(hv:s.vars=[])(hs:(s.fn H (ds++[]))= {results:=[.lit (.bool true)],args:=ds})(hrd:∀ t∈f.params.toList,P.readableRec t=true∧t<P.types.size)
  (hW:DataW.Whole enc P f.params.toList s.vars false W args.toList ds [] before)(hB:Below W.heap.size W W'):s.post enc P f false true false again W args (.bool true) W':=by
 have hlt:∀ x∈before,x.block<W.heap.size:=fun x hx=>by simpa using hW.lt x hx
 have hW0:=hW
 obtain ⟨p,q,hA,hV,rfl,hfz,_⟩:=hW
 rw [hv] at hV
 obtain ⟨_,rfl⟩:=trodVars_none hV
 rw [List.append_nil] at hlt hfz hW0
 have hres:∀ (b:Nat) (sp:Nat→Bool) (hd:Bool),DataW.TrodAll enc P W' b sp hd f.resultTypes.toList ((Value.bool true).resultList f.resultTypes.size) [.lit (.bool true)] []:=fun b sp hd=>by
  rw [hr];exact trodAll_mk1 (shut_bool hb true)
 have hargs:∀ sp:Nat→Bool,(∀ x∈p,sp x.block=true)→DataW.TrodAll enc P W' 0 sp true f.params.toList args.toList ds p:=fun sp h=>Xn hl hB sp _ _ _ _ hrd hA (fun x hx=>⟨hlt x hx,h x hx⟩)
 have hnil:∀ sp:Nat→Bool,DataW.TrodVars enc P W' sp s.vars [] []:=fun sp=>by rw [hv];rfl
 refine ⟨ds,[],p,[],p,[],hW0,?_,?_,?_,zdO hB,fun _=>?_⟩
 ·
  rw [hs];exact hres _ _ _
 ·
  rw [hs];exact hargs _ (fun x hx=>by simpa using hlt x hx)
 ·
  rw [hs];exact hnil _
 ·
  refine ⟨fun j t r ht hr'=>?_,[.lit (.bool true)]++ds,[],[]++p,⟨[]++p,[],trodAll_append (hargs _ (fun _ _=>rfl)) (hres _ _ _),hnil _,by simp,?_,fun h=>by cases h⟩,fun x hx _=>by simpa using hx⟩
  ·
   rw [hr] at ht hr'
   cases j with
   | zero=>simp [Value.resultList] at ht hr';subst ht;subst hr';exact okWide_bool_mk hb _
   | succ j=>simp at ht
  ·
   intro b off hx
   rw [hB.frozen (hlt _ (by simpa using hx))]
   exact hfz b off (by simpa using hx)
theorem zkR {W:World}{b o:Nat}{u:Value}(h:W.cell? ⟨b,o,none⟩=some u):QA (zfb W) [] b o u:=by
 unfold World.cell? at h
 split at h
 ·
  rename_i c t fz hb
  simp only [Option.isSome_none,Bool.false_eq_true,if_false] at h
  exact ⟨c,t,fz,.inl hb,h⟩
 ·
  cases h
theorem zh4 {H:Type}{enc:TypeId×Value→H}{P:Program}{W:World}{t e:TypeId}{size fuel0:Nat}{cs:List Value}{x0:DataW H×List MemPlace}{α:Type}(enc':α→List Value)(ok:α→Prop)
  (ht:P.underlying t=some (.slice e))(hc:P.cellsOf e=size)(hpos:0<size)(hlen:∀ y,(enc' y).length=size)
  (hel:∀ fuel cs x,DataW.trod enc P W 0 (fun _=>true) true fuel e cs=some x→∃ y,ok y∧enc' y=cs)
  (hf':DataW.trod enc P W 0 (fun _=>true) true fuel0 t cs=some x0):∃ av n c xs,cs=[.slice av n c]∧Sl (zfb W) size enc' av n c xs∧(∀ x∈xs,ok x)∧c≤maxLen:=by
 rcases Go.Deep.open_slice ht hf' with ⟨e1,_⟩ | ⟨a,len0,cap0,m,n,D,Pl,e1,hb,hl,hm,hmm,_,hx⟩
 ·
  subst e1
  exact ⟨none,0,0,[],rfl,.nil,(fun x hx=>by cases hx),Nat.zero_le _⟩
 ·
  subst e1
  have hlm:len0≤m:=by rw [hmm];simp;exact hl
  have each:∀ i,i<len0→∃ y,ok y∧W.cells? 0 (a.add (i*size)) size=some (enc' y):=fun i hi=>by
   obtain ⟨cs',h1,h2⟩:=hx i kB
   obtain ⟨y,hy,e⟩:=hel _ _ _ h2
   rw [hc] at h1
   exact ⟨y,hy,by rw [h1,e]⟩
  have all:∀ k,k≤len0→∃ xs:List α,xs.length=k∧∀ i x,xs[i]? =some x→ok x∧W.cells? 0 (a.add (i*size)) size=some (enc' x):=by
   intro k
   induction k with
   | zero=>intro _;exact ⟨[],rfl,fun i x h=>by simp at h⟩
   | succ k ih=>
    intro hk
    obtain ⟨xs,hl',hxs⟩:=ih kB
    obtain ⟨y,hy,hcy⟩:=each k kB
    refine ⟨xs++[y],by simp [hl'],fun i x h=>?_⟩
    by_cases hi:i<xs.length
    ·
     rw [List.getElem?_append_left hi] at h;exact hxs i x h
    ·
     rw [List.getElem?_append_right kB] at h
     have:i=k:=by have:=(List.getElem?_eq_some_iff.1 h).1;simp at this;omega
     subst this
     rw [hl'] at h;simp at h;subst h
     exact ⟨hy,hcy⟩
  obtain ⟨xs,hl',hxs⟩:=all len0 (Nat.le_refl _)
  have add0:∀ (b o n:Nat),(⟨b,o,none⟩:Addr).add n=⟨b,o+n,none⟩:=fun b o n=>by
   unfold Addr.add
   split
   ·
    rename_i e;subst e;rfl
   ·
    rfl
  have hspot:0<xs.length→a.spot=none:=fun hx=>by
   have hx0:xs[0]? =some xs[0]:=List.getElem?_eq_getElem hx
   have hp0:0<(enc' xs[0]).length:=by rw [hlen];exact hpos
   obtain ⟨_,h1,h2⟩:=World.cells?_some (hxs 0 _ hx0).2
   have h3:=h2 0 hpos
   rw [List.getElem?_eq_getElem hp0] at h3
   simpa [Addr.add] using World.cell?_spot h3
  have cellat:∀ i x,xs[i]? =some x→∀ j u,(enc' x)[j]? =some u→W.cell? ⟨a.block,a.off+i*size+j,none⟩=some u:=fun i x hx j u hu=>by
   obtain ⟨_,h1,h2⟩:=World.cells?_some (hxs i x hx).2
   have hj:j<size:=by rw [←hlen x];exact (List.getElem?_eq_some_iff.1 hu).1
   have h3:=h2 j hj
   rw [hu] at h3
   have hsp:=hspot (by have:=(List.getElem?_eq_some_iff.1 hx).1;omega)
   obtain ⟨b,o,sp⟩:=a
   simp only at hsp
   subst hsp
   rw [add0,add0] at h3
   exact h3
  refine ⟨some a,len0,cap0,xs,rfl,⟨hl',hl,fun hn=>?_,fun k x hx j u hu=>?_⟩,fun x hx=>?_,hm⟩
  ·
   have:=hspot kB
   obtain ⟨b,o,sp⟩:=a
   simp only at this
   subst this;rfl
  ·
   exact zkR (cellat k x hx j u hu)
  ·
   obtain ⟨i,hi⟩:=List.getElem?_of_mem hx
   exact (hxs i x hi).1
theorem zvo {H:Type}{enc:TypeId×Value→H}{P:Program}{W:World}{e:TypeId}{k:IntKind}(he:P.underlying e=some (.int k))(hk:k= .i64)(fuel:Nat)(cs:List Value)(x:DataW H×List MemPlace)(h:DataW.trod enc P W 0 (fun _=>true) true fuel e cs=some x):
  ∃ y:Int,(-9223372036854775808≤y∧y≤9223372036854775807)∧[Value.int .i64 y]=cs:=by
 subst hk
 obtain ⟨v,hv⟩:∃ v,cs=[v]:=by
  have:=h
  cases fuel with
  | zero=>simp [DataW.trod] at this
  | succ m=>unfold DataW.trod at this;rw [he] at this;split at this<;>simp_all
 subst hv
 obtain ⟨n,e,_,w⟩:=DataW.trod_int he h
 cases e
 simp only [Lit.wf,Bool.and_eq_true,decide_eq_true_eq] at w
 exact ⟨n,w,rfl⟩
theorem ZO {n:Int}(h:(Lit.int .i64 n).wf=true): -9223372036854775808≤n∧n≤9223372036854775807:=by
 simp only [Lit.wf,Bool.and_eq_true,decide_eq_true_eq] at h
 exact h
end
section
open Go
theorem Jz {H:Type}{enc:TypeId×Value→H}{P:Program}{W:World}{base:Nat}{spare:Nat→Bool}{held:Bool}{t C:Nat}{fs:Array Field}{fuel:Nat}{cs:List Value}{x:DataW H×List MemPlace}(hs:P.underlying t=some (.struct fs))
  (hC:P.cellsOf t=C)(h:DataW.trod enc P W base spare held fuel t cs=some x):
  cs.length=C∧∃ n,∀ (i ty off k:Nat),((fs[i]?).map fun f=>(f.type,f.offset))=some (ty,off)→P.cellsOf ty=k→∃ y,DataW.trod enc P W base spare held n ty ((cs.drop off).take k)=some y:=by
 obtain ⟨xs,n,_,_,hl,hxl,hf⟩:=DataW.trod_struct hs h
 refine ⟨hl.trans hC,n,fun i ty off k hi hk=>?_⟩
 obtain ⟨f,hfi,e⟩:=Option.map_eq_some_iff.1 hi
 cases e
 have g:=hf i f hfi
 have hix:i<xs.length:=by rw [hxl];exact (Array.getElem?_eq_some_iff.1 hfi).1
 rw [hk,List.getElem?_eq_getElem hix] at g
 exact ⟨_,g⟩
end
end Go.Kn
namespace Go.Proofs.YtjblkbkmblkgoaaGreat
section
open Go Go.Kn Go.Proofs
open Go.ChangeShapes Go.WideShapes Go.ChangeAt Go.RowKit
set_option maxRecDepth 100000
theorem zqC:Tryz.prog.underlying 3=some (.int .i64):=kA
theorem zuB:Tryz.prog.underlying 45=some (.struct (Tryz.prog.fieldsOf 45)):=kA
theorem zuA:Tryz.prog.underlying 32=some (.struct (Tryz.prog.fieldsOf 32)):=kA
theorem zui:Tryz.prog.underlying 30=some (.struct (Tryz.prog.fieldsOf 30)):=kA
theorem zrL:Tryz.prog.underlying 39=some (.struct (Tryz.prog.fieldsOf 39)):=kA
theorem ztZ:Tryz.prog.underlying 36=some (.struct (Tryz.prog.fieldsOf 36)):=kA
theorem zju:Tryz.prog.underlying 34=some (.struct (Tryz.prog.fieldsOf 34)):=kA
theorem zrv:Tryz.prog.underlying 37=some (.slice 3):=kA
theorem ztU:Tryz.prog.underlying 41=some (.struct (Tryz.prog.fieldsOf 41)):=kA
theorem zts:Tryz.prog.underlying 43=some (.struct (Tryz.prog.fieldsOf 43)):=kA
theorem zqc:Tryz.prog.underlying 9=some .string:=kA
theorem zsO:Tryz.prog.underlying 57=some (.slice 45):=kA
theorem zjR:Tryz.prog.underlying 59=some (.struct (Tryz.prog.fieldsOf 59)):=kA
theorem K4 {H:Type}{enc:TypeId×Value→H}{W:World}{n:Nat}{c:Value}{x:DataW H×List MemPlace}(h:DataW.trod enc Tryz.prog W 0 (fun _=>true) true n 3 [c]=some x):∃ k:Int,c= .int .i64 k∧(Lit.int .i64 k).wf=true:=let ⟨k,e,_,w⟩:=DataW.trod_int zqC h;⟨k,(List.cons.inj e).1,w⟩
theorem zyd {H:Type}{enc:TypeId×Value→H}{W:World}(fuel:Nat)(cs:List Value)(x:DataW H×List MemPlace)(h:DataW.trod enc Tryz.prog W 0 (fun _=>true) true fuel 45 cs=some x):∃ y:Nt,(fun x=>Nd (zfb W) x.pt∧NtW x) y∧Q4 y=cs:=by
 obtain ⟨hl,n0_,f0⟩:=Jz (C:=45) zuB kA h
 match cs,hl with
 | (c0::c1::c2::c3::c4::c5::c6::c7::c8::c9::c10::c11::c12::c13::c14::c15::c16::c17::c18::c19::c20::c21::c22::c23::c24::c25::c26::c27::c28::c29::c30::c31::c32::c33::c34::c35::c36::c37::c38::c39::c40::c41::c42::c43::c44::[]),_=>
  obtain ⟨_,g0_0⟩:=f0 0 3 0 1 kA kA
  obtain ⟨n0,e0,w0⟩:=K4 (c:=c0) g0_0
  obtain ⟨_,g0_1⟩:=f0 1 32 1 9 kA kA
  obtain ⟨_,n1_,f1⟩:=Jz (C:=9) zuA kA (show DataW.trod enc Tryz.prog W 0 (fun _=>true) true n0_ 32 [c1,c2,c3,c4,c5,c6,c7,c8,c9]=some _ from g0_1)
  obtain ⟨_,g1_0⟩:=f1 0 3 0 1 kA kA
  obtain ⟨n1,e1,w1⟩:=K4 (c:=c1) g1_0
  obtain ⟨_,g1_1⟩:=f1 1 3 1 1 kA kA
  obtain ⟨n2,e2,w2⟩:=K4 (c:=c2) g1_1
  obtain ⟨_,g1_2⟩:=f1 2 3 2 1 kA kA
  obtain ⟨n3,e3,w3⟩:=K4 (c:=c3) g1_2
  obtain ⟨_,g1_3⟩:=f1 3 3 3 1 kA kA
  obtain ⟨n4,e4,w4⟩:=K4 (c:=c4) g1_3
  obtain ⟨_,g1_4⟩:=f1 4 3 4 1 kA kA
  obtain ⟨n5,e5,w5⟩:=K4 (c:=c5) g1_4
  obtain ⟨_,g1_5⟩:=f1 5 3 5 1 kA kA
  obtain ⟨n6,e6,w6⟩:=K4 (c:=c6) g1_5
  obtain ⟨_,g1_6⟩:=f1 6 30 6 3 kA kA
  obtain ⟨_,n2_,f2⟩:=Jz (C:=3) zui kA (show DataW.trod enc Tryz.prog W 0 (fun _=>true) true n1_ 30 [c7,c8,c9]=some _ from g1_6)
  obtain ⟨_,g2_0⟩:=f2 0 3 0 1 kA kA
  obtain ⟨n7,e7,w7⟩:=K4 (c:=c7) g2_0
  obtain ⟨_,g2_1⟩:=f2 1 3 1 1 kA kA
  obtain ⟨n8,e8,w8⟩:=K4 (c:=c8) g2_1
  obtain ⟨_,g2_2⟩:=f2 2 3 2 1 kA kA
  obtain ⟨n9,e9,w9⟩:=K4 (c:=c9) g2_2
  obtain ⟨_,g0_2⟩:=f0 2 39 10 19 kA kA
  obtain ⟨_,n3_,f3⟩:=Jz (C:=19) zrL kA (show DataW.trod enc Tryz.prog W 0 (fun _=>true) true n0_ 39 [c10,c11,c12,c13,c14,c15,c16,c17,c18,c19,c20,c21,c22,c23,c24,c25,c26,c27,c28]=some _ from g0_2)
  obtain ⟨_,g3_0⟩:=f3 0 3 0 1 kA kA
  obtain ⟨n10,e10,w10⟩:=K4 (c:=c10) g3_0
  obtain ⟨_,g3_1⟩:=f3 1 3 1 1 kA kA
  obtain ⟨n11,e11,w11⟩:=K4 (c:=c11) g3_1
  obtain ⟨_,g3_2⟩:=f3 2 3 2 1 kA kA
  obtain ⟨n12,e12,w12⟩:=K4 (c:=c12) g3_2
  obtain ⟨_,g3_3⟩:=f3 3 3 3 1 kA kA
  obtain ⟨n13,e13,w13⟩:=K4 (c:=c13) g3_3
  obtain ⟨_,g3_4⟩:=f3 4 36 4 14 kA kA
  obtain ⟨_,n4_,f4⟩:=Jz (C:=14) ztZ kA (show DataW.trod enc Tryz.prog W 0 (fun _=>true) true n3_ 36 [c14,c15,c16,c17,c18,c19,c20,c21,c22,c23,c24,c25,c26,c27]=some _ from g3_4)
  obtain ⟨_,g4_0⟩:=f4 0 3 0 1 kA kA
  obtain ⟨n14,e14,w14⟩:=K4 (c:=c14) g4_0
  obtain ⟨_,g4_1⟩:=f4 1 3 1 1 kA kA
  obtain ⟨n15,e15,w15⟩:=K4 (c:=c15) g4_1
  obtain ⟨_,g4_2⟩:=f4 2 3 2 1 kA kA
  obtain ⟨n16,e16,w16⟩:=K4 (c:=c16) g4_2
  obtain ⟨_,g4_3⟩:=f4 3 3 3 1 kA kA
  obtain ⟨n17,e17,w17⟩:=K4 (c:=c17) g4_3
  obtain ⟨_,g4_4⟩:=f4 4 3 4 1 kA kA
  obtain ⟨n18,e18,w18⟩:=K4 (c:=c18) g4_4
  obtain ⟨_,g4_5⟩:=f4 5 3 5 1 kA kA
  obtain ⟨n19,e19,w19⟩:=K4 (c:=c19) g4_5
  obtain ⟨_,g4_6⟩:=f4 6 3 6 1 kA kA
  obtain ⟨n20,e20,w20⟩:=K4 (c:=c20) g4_6
  obtain ⟨_,g4_7⟩:=f4 7 3 7 1 kA kA
  obtain ⟨n21,e21,w21⟩:=K4 (c:=c21) g4_7
  obtain ⟨_,g4_8⟩:=f4 8 3 8 1 kA kA
  obtain ⟨n22,e22,w22⟩:=K4 (c:=c22) g4_8
  obtain ⟨_,g4_9⟩:=f4 9 3 9 1 kA kA
  obtain ⟨n23,e23,w23⟩:=K4 (c:=c23) g4_9
  obtain ⟨_,g4_10⟩:=f4 10 34 10 2 kA kA
  obtain ⟨_,n5_,f5⟩:=Jz (C:=2) zju kA (show DataW.trod enc Tryz.prog W 0 (fun _=>true) true n4_ 34 [c24,c25]=some _ from g4_10)
  obtain ⟨_,g5_0⟩:=f5 0 3 0 1 kA kA
  obtain ⟨n24,e24,w24⟩:=K4 (c:=c24) g5_0
  obtain ⟨_,g5_1⟩:=f5 1 3 1 1 kA kA
  obtain ⟨n25,e25,w25⟩:=K4 (c:=c25) g5_1
  obtain ⟨_,g4_11⟩:=f4 11 34 12 2 kA kA
  obtain ⟨_,n6_,f6⟩:=Jz (C:=2) zju kA (show DataW.trod enc Tryz.prog W 0 (fun _=>true) true n4_ 34 [c26,c27]=some _ from g4_11)
  obtain ⟨_,g6_0⟩:=f6 0 3 0 1 kA kA
  obtain ⟨n26,e26,w26⟩:=K4 (c:=c26) g6_0
  obtain ⟨_,g6_1⟩:=f6 1 3 1 1 kA kA
  obtain ⟨n27,e27,w27⟩:=K4 (c:=c27) g6_1
  obtain ⟨_,g3_5⟩:=f3 5 37 18 1 kA kA
  obtain ⟨a28,m28,q28,n28,e28,s28,o28,_⟩:=zh4 (t:=37) (e:=3) Z5 (fun n:Int=> -9223372036854775808≤n∧n≤9223372036854775807) zrv kA kD YJ (fun fuel cs x h=>zvo zqC rfl fuel cs x h) (show DataW.trod enc Tryz.prog W 0 (fun _=>true) true n3_ 37 [c28]=some _ from g3_5)
  obtain ⟨_,g0_3⟩:=f0 3 41 29 5 kA kA
  obtain ⟨_,n7_,f7⟩:=Jz (C:=5) ztU kA (show DataW.trod enc Tryz.prog W 0 (fun _=>true) true n0_ 41 [c29,c30,c31,c32,c33]=some _ from g0_3)
  obtain ⟨_,g7_0⟩:=f7 0 3 0 1 kA kA
  obtain ⟨n29,e29,w29⟩:=K4 (c:=c29) g7_0
  obtain ⟨_,g7_1⟩:=f7 1 3 1 1 kA kA
  obtain ⟨n30,e30,w30⟩:=K4 (c:=c30) g7_1
  obtain ⟨_,g7_2⟩:=f7 2 3 2 1 kA kA
  obtain ⟨n31,e31,w31⟩:=K4 (c:=c31) g7_2
  obtain ⟨_,g7_3⟩:=f7 3 3 3 1 kA kA
  obtain ⟨n32,e32,w32⟩:=K4 (c:=c32) g7_3
  obtain ⟨_,g7_4⟩:=f7 4 3 4 1 kA kA
  obtain ⟨n33,e33,w33⟩:=K4 (c:=c33) g7_4
  obtain ⟨_,g0_4⟩:=f0 4 43 34 11 kA kA
  obtain ⟨_,n8_,f8⟩:=Jz (C:=11) zts kA (show DataW.trod enc Tryz.prog W 0 (fun _=>true) true n0_ 43 [c34,c35,c36,c37,c38,c39,c40,c41,c42,c43,c44]=some _ from g0_4)
  obtain ⟨_,g8_0⟩:=f8 0 3 0 1 kA kA
  obtain ⟨n34,e34,w34⟩:=K4 (c:=c34) g8_0
  obtain ⟨_,g8_1⟩:=f8 1 3 1 1 kA kA
  obtain ⟨n35,e35,w35⟩:=K4 (c:=c35) g8_1
  obtain ⟨_,g8_2⟩:=f8 2 3 2 1 kA kA
  obtain ⟨n36,e36,w36⟩:=K4 (c:=c36) g8_2
  obtain ⟨_,g8_3⟩:=f8 3 3 3 1 kA kA
  obtain ⟨n37,e37,w37⟩:=K4 (c:=c37) g8_3
  obtain ⟨_,g8_4⟩:=f8 4 3 4 1 kA kA
  obtain ⟨n38,e38,w38⟩:=K4 (c:=c38) g8_4
  obtain ⟨_,g8_5⟩:=f8 5 3 5 1 kA kA
  obtain ⟨n39,e39,w39⟩:=K4 (c:=c39) g8_5
  obtain ⟨_,g8_6⟩:=f8 6 9 6 1 kA kA
  obtain ⟨n40,e40,_⟩:=DataW.trod_string zqc (show DataW.trod enc Tryz.prog W 0 (fun _=>true) true n8_ 9 [c40]=some _ from g8_6)
  obtain ⟨_,g8_7⟩:=f8 7 9 7 1 kA kA
  obtain ⟨n41,e41,_⟩:=DataW.trod_string zqc (show DataW.trod enc Tryz.prog W 0 (fun _=>true) true n8_ 9 [c41]=some _ from g8_7)
  obtain ⟨_,g8_8⟩:=f8 8 3 8 1 kA kA
  obtain ⟨n42,e42,w42⟩:=K4 (c:=c42) g8_8
  obtain ⟨_,g8_9⟩:=f8 9 3 9 1 kA kA
  obtain ⟨n43,e43,w43⟩:=K4 (c:=c43) g8_9
  obtain ⟨_,g8_10⟩:=f8 10 3 10 1 kA kA
  obtain ⟨n44,e44,w44⟩:=K4 (c:=c44) g8_10
  cases e0;cases e1;cases e2;cases e3;cases e4;cases e5;cases e6;cases e7;cases e8;cases e9;cases e10;cases e11;cases e12;cases e13;cases e14;cases e15;cases e16;cases e17;cases e18;cases e19;cases e20;cases e21;cases e22;cases e23;cases e24;cases e25;cases e26;cases e27;cases e28;cases e29;cases e30;cases e31;cases e32;cases e33;cases e34;cases e35;cases e36;cases e37;cases e38;cases e39;cases e40;cases e41;cases e42;cases e43;cases e44
  exact ⟨⟨n0,⟨n1,n2,n3,n4,n5,n6,n7,n8,n9⟩,⟨n10,n11,n12,n13,⟨n14,n15,n16,n17,n18,n19,n20,n21,n22,n23,n24,n25,n26,n27⟩,a28,m28,q28,n28⟩,⟨n29,n30,n31,n32,n33⟩,⟨n34,n35,n36,n37,n38,n39,n40,n41,n42,n43,n44⟩⟩,⟨s28,⟨List.forall_mem_cons.2 ⟨ZO w0,List.forall_mem_cons.2 ⟨ZO w1,List.forall_mem_cons.2 ⟨ZO w2,List.forall_mem_cons.2 ⟨ZO w3,List.forall_mem_cons.2 ⟨ZO w4,List.forall_mem_cons.2 ⟨ZO w5,List.forall_mem_cons.2 ⟨ZO w6,List.forall_mem_cons.2 ⟨ZO w7,List.forall_mem_cons.2 ⟨ZO w8,List.forall_mem_cons.2 ⟨ZO w9,List.forall_mem_cons.2 ⟨ZO w10,List.forall_mem_cons.2 ⟨ZO w11,List.forall_mem_cons.2 ⟨ZO w12,List.forall_mem_cons.2 ⟨ZO w13,List.forall_mem_cons.2 ⟨ZO w14,List.forall_mem_cons.2 ⟨ZO w15,List.forall_mem_cons.2 ⟨ZO w16,List.forall_mem_cons.2 ⟨ZO w17,List.forall_mem_cons.2 ⟨ZO w18,List.forall_mem_cons.2 ⟨ZO w19,List.forall_mem_cons.2 ⟨ZO w20,List.forall_mem_cons.2 ⟨ZO w21,List.forall_mem_cons.2 ⟨ZO w22,List.forall_mem_cons.2 ⟨ZO w23,List.forall_mem_cons.2 ⟨ZO w24,List.forall_mem_cons.2 ⟨ZO w25,List.forall_mem_cons.2 ⟨ZO w26,List.forall_mem_cons.2 ⟨ZO w27,List.forall_mem_cons.2 ⟨ZO w29,List.forall_mem_cons.2 ⟨ZO w30,List.forall_mem_cons.2 ⟨ZO w31,List.forall_mem_cons.2 ⟨ZO w32,List.forall_mem_cons.2 ⟨ZO w33,List.forall_mem_cons.2 ⟨ZO w34,List.forall_mem_cons.2 ⟨ZO w35,List.forall_mem_cons.2 ⟨ZO w36,List.forall_mem_cons.2 ⟨ZO w37,List.forall_mem_cons.2 ⟨ZO w38,List.forall_mem_cons.2 ⟨ZO w39,List.forall_mem_cons.2 ⟨ZO w42,List.forall_mem_cons.2 ⟨ZO w43,List.forall_mem_cons.2 ⟨ZO w44,fun y hy=>(by cases hy)⟩⟩⟩⟩⟩⟩⟩⟩⟩⟩⟩⟩⟩⟩⟩⟩⟩⟩⟩⟩⟩⟩⟩⟩⟩⟩⟩⟩⟩⟩⟩⟩⟩⟩⟩⟩⟩⟩⟩⟩⟩⟩,o28⟩⟩,rfl⟩
theorem zrE {H:Type}{enc:TypeId×Value→H}{W:World}{base:Nat}{v:Value}{d:DataW H}{p:List MemPlace}(hv:Value.okWide Tryz.prog W .any base 59 v)(h:DataW.Trod enc Tryz.prog W 0 (fun _=>true) true 59 v d p):
  ∃ av n c xs,v= .agg #[.slice av n c]∧zbd (zfb W) av n c xs∧∀ x∈xs,NtW x:=by
 obtain ⟨cs,rfl,_⟩:=okWide_struct zjR hv
 obtain ⟨fuel,hf⟩:=h
 obtain ⟨l⟩:=cs
 obtain ⟨hl,n0_,f0⟩:=Jz (C:=1) zjR kA hf
 match l,hl with
 | [c0],_=>
  obtain ⟨_,g0_0⟩:=f0 0 57 0 1 kA kA
  obtain ⟨a0,m0,q0,n0,e0,s0,o0,_⟩:=zh4 (t:=57) (e:=45) Q4 (fun x:Nt=>Nd (zfb W) x.pt∧NtW x) zsO kA kD YV (fun fuel cs x h=>zyd fuel cs x h) (show DataW.trod enc Tryz.prog W 0 (fun _=>true) true n0_ 57 [c0]=some _ from g0_0)
  cases e0
  exact ⟨a0,m0,q0,n0,rfl,⟨s0,fun x hx=>(o0 x hx).1,fun x hx hf=>zeC (o0 x hx).2 (o0 x hx).1 hf⟩,fun x hx=>(o0 x hx).2⟩
end
section
open Go Go.Kn Go.Proofs
open Go.ChangeShapes Go.WideShapes Go.ChangeAt Go.RowKit
theorem own:ownKnob Tryz.prog.godebug=none:=kA
theorem zth:laidOutB Tryz.prog=true:=kA
set_option maxRecDepth 100000 in
theorem Wy (os:Os) (started:os.Started) (H:Type) (enc:TypeId×Value→H):
  ReturnsInHanded {} Tryz.checked os 8 .any (Rows.partiesWorldSpec.pre6 enc Tryz.prog Tryz.f8 Rows.partiesWorldRow.domain false) (Rows.partiesWorldSpec.post enc Tryz.prog Tryz.f8 false true false false):=by
 refine returnsInHanded_of_change (C:=Tryz.checked) own started kA Tryz.func8
  (ChangeSpec.witness6 (enc:=enc) (C:=Tryz.checked) false ⟨#[], #[.agg #[.slice none 0 0]],[]⟩ 8 kA kA kA kA) ?_
 intro W base args ds gs before hval0 hW hcnd _
 have hval:∀ (j:Nat) t v,Tryz.f8.params[j]? =some t→args[j]? =some v→Value.okWide Tryz.prog W .any base t v:=hval0
 have hW':=hW
 obtain ⟨p,q,hA0,hV,rfl,hfz,hnd⟩:=hW
 have hA:DataW.TrodAll enc Tryz.prog W 0 (fun _=>true) true Tryz.f8.params.toList args.toList ds p:=hA0
 rw [Tryz.params8] at hA hval
 obtain ⟨v0,vs1,d0,ds1,p0,q1,ea,rfl,rfl,h0,hA⟩:=trodAll_cons hA
 obtain ⟨rfl,rfl,rfl⟩:=trodAll_nil hA
 have ea':args= #[v0]:=by rw [←Array.toArray_toList (xs:=args),ea]
 subst ea'
 obtain ⟨rfl,rfl⟩:=trodVars_none hV
 obtain ⟨av,n,c,xs,rfl,hP,hW⟩:=zrE (hval 0 59 v0 rfl rfl) h0
 refine (ZA.law (zoT hP hW)).mono fun e W' ⟨he,hB⟩=>?_
 subst he
 exact ⟨_,rfl,zo9 zth kA zst rfl rfl (by rw [Tryz.params8];simp only [List.mem_cons,List.not_mem_nil,or_false,forall_eq_or_imp,forall_eq];exact ⟨kA,of_decide_eq_true kA⟩) hW' hB⟩
end
section
open Go Go.Kn Go.Proofs
open Go.ChangeShapes Go.WideShapes Go.ChangeAt Go.RowKit
theorem VR {a b:Bool}(h1:a=true)(h2:b=true):(a&&b)=true:=by rw [h1,h2];rfl
theorem jf0:(Rows.partiesWorldRow.wf (OpenSpec.ofChange Rows.partiesWorldSpec))=true:=kA
theorem jf1:(laidOutB Tryz.checked.prog)=true:=kA
theorem jf2:(mapsRowed Tryz.checked.prog)=true:=kA
theorem jf3:(Tryz.f8.params.all (Tryz.checked.prog.readableRec ·))=true:=kA
theorem jf4:(namedTie Tryz.checked.prog Rows.partiesWorldRow.named Rows.partiesWorldSpec.vars)=true:=kA
theorem jf5:(Rows.partiesWorldRow.stops== [])=true:=kA
theorem jf6:(Tryz.checked.prog.stops== [])=true:=kA
theorem jf7:(Rows.partiesWorldRow.knobs== [])=true:=kA
theorem jf8:(Tryz.checked.prog.stopKnobs== [])=true:=kA
theorem jf9:(Rows.partiesWorldRow.inPlace==(Tryz.checked.prog.inPlace 8))=true:=kA
theorem zzT:(Rows.partiesWorldRow.unfollowed==(Tryz.checked.prog.unfollowed 8))=true:=kA
theorem zzO:(Rows.partiesWorldRow.recurses==(Tryz.checked.prog.recurses 8))=true:=kA
theorem zzk:(Rows.partiesWorldRow.named==(Tryz.checked.prog.varsNamed 8))=true:=kA
theorem zzG:(Rows.partiesWorldRow.maps==(Tryz.f8.params.toList++Rows.partiesWorldSpec.plain.varTypes Tryz.checked.prog).any (Tryz.checked.prog.mapsRec ·))=true:=kA
theorem zzC:(Rows.partiesWorldRow.ifaces==(Tryz.f8.params.toList++Rows.partiesWorldSpec.plain.varTypes Tryz.checked.prog).any (Tryz.checked.prog.ifacesRec ·))=true:=kA
theorem zzF:(Rows.partiesWorldRow.mapsOut==Tryz.checked.prog.mapsAmong Tryz.f8.resultTypes.toList)=true:=kA
theorem zzH:(Rows.partiesWorldRow.loops==(Tryz.f8.params.toList++Rows.partiesWorldSpec.plain.varTypes Tryz.checked.prog).any (Tryz.checked.prog.loopsFrom ·))=true:=kA
theorem zzU:(Rows.partiesWorldRow.wideKeys==(Tryz.f8.params.toList++Rows.partiesWorldSpec.plain.varTypes Tryz.checked.prog++Tryz.f8.resultTypes.toList).any (Tryz.checked.prog.wideKeysFrom ·))=true:=kA
theorem zzo:(Rows.partiesWorldSpec.vars.all (Tryz.checked.prog.varReadable ·))=true:=kA
theorem zzK:(Tryz.f8.resultTypes.all (fun t=>Tryz.checked.prog.readableRec t&&decide (t<Tryz.checked.prog.types.size)))=true:=kA
theorem zzL:(Rows.partiesWorldRow.ifacesOut==Tryz.f8.resultTypes.toList.any (Tryz.checked.prog.ifacesRec ·))=true:=kA
theorem zzu:(Rows.partiesWorldRow.loopsOut==Tryz.f8.resultTypes.toList.any (Tryz.checked.prog.loopsFrom ·))=true:=kA
theorem zzE:(Rows.partiesWorldRow.plainKeys==Tryz.checked.prog.plainKeys)=true:=kA
theorem zzx:(Rows.partiesWorldRow.shortTexts.isNone)=true:=kA
theorem zzl:(Tryz.checked.prog.stopsHeard)=true:=kA
theorem zzI:(Tryz.checked.prog.mayEnter)=true:=kA
theorem zzz:(Rows.partiesWorldRow.lifted==Tryz.checked.prog.liftsFinal)=true:=kA
theorem zzS:(Tryz.checked.prog.make==some Rows.partiesWorldRow.make)=true:=kA
theorem zzR:(Rows.partiesWorldRow.pinned==Rows.partiesWorldRow.pinnedBy)=true:=kA
theorem zzN:(Rows.partiesWorldRow.veiled==(Tryz.f8.params.toList++Rows.partiesWorldSpec.plain.varTypes Tryz.checked.prog++Tryz.f8.resultTypes.toList).any (Tryz.checked.prog.veiledRec ·))=true:=kA
theorem zzV:(Rows.partiesWorldRow.veiledFits Tryz.checked.prog Tryz.f8.params.toList (Tryz.f8.params.toList++Rows.partiesWorldSpec.plain.varTypes Tryz.checked.prog++Tryz.f8.resultTypes.toList))=true:=kA
theorem zwA:joinedFacts Tryz.checked.prog 8 Tryz.f8 Rows.partiesWorldSpec Rows.partiesWorldRow=true:=by
 unfold joinedFacts
 exact (VR (VR (VR (VR (VR (VR (VR (VR (VR (VR (VR (VR (VR (VR (VR (VR (VR (VR (VR (VR (VR (VR (VR (VR (VR (VR (VR (VR (VR (VR (VR jf0 jf1) jf2) jf3) jf4) jf5) jf6) jf7) jf8) jf9) zzT) zzO) zzk) zzG) zzC) zzF) zzH) zzU) zzo) zzK) zzL) zzu) zzE) zzx) zzl) zzI) zzz) zzS) kA) zzR) zzN) zzV)
theorem partiesWorld_holds:Rows.PartiesWorldSaid:=
 OpenClaim.holds_of_wide 8 Tryz.f8 rfl rfl rfl rfl rfl rfl rfl ⟨rfl,rfl,rfl,rfl,rfl⟩ rfl rfl rfl rfl rfl kA Tryz.func8 zwA
  (of_decide_eq_true kA) (by unfold Func.isWrapper;first | (rw [if_pos (by decide+kernel)];kernel_rfl) | (rw [if_neg (by decide+kernel)];exact ⟨rfl,rfl⟩))
  (fun os started H enc _=>Wy os started H enc)
#print axioms partiesWorld_holds
end
end Go.Proofs.YtjblkbkmblkgoaaGreat
