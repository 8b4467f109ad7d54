/- apparatusSpec_holds, part C of the proof: what its theorems say holds without further conditions. -/
import Derived.Lib.SlicesCompact
import Derived.Lib.RowBridge
import Derived.Shelf.SlSortCmp.WholeK
import Derived.Shelf.Small.Bits
import Derived.Shelf.Small.Wraps
import Derived.Shelf.Strconv.Itoa0
import Derived.Shelf.Sort.Plain
import Derived.Shelf.Slices.Turned
import Derived.Shelf.Slices.Equal
import Derived.Ground.Names2Prog
import Derived.Shelf.Slices.Clone
import Derived.Shelf.Slices.CompactI
import Derived.Shelf.Slices.SearchI
import Derived.Shelf.Slices.Cells
import Derived.Shelf.Slices.In.SortNone
import Derived.Shelf.Slices.Empties
import Derived.Shelf.Slices.Empties2
import Derived.Ground.SlgnProg
import Derived.Shelf.SlicesE.Clone
import Derived.Ground.SlsfProg
import Derived.Shelf.SlSortCmp.InsertionK
import Derived.Shelf.SlSortCmp.SiftDownK
import Derived.Shelf.SlSortCmp.HeapSortK
import Derived.Shelf.SlSortCmp.MedianK
import Derived.Shelf.SlSortCmp.PivotK
import Derived.Shelf.SlSortCmp.ReverseRangeK
import Derived.Shelf.SlSortCmp.PartialInsertionK
import Derived.Shelf.SlSortCmp.PartitionEqualK
import Derived.Shelf.SlSortCmp.PartitionK
import Derived.Shelf.SlSortCmp.PdqK
import Derived.Shelf.SlSortCmp.NoneTotal
import Derived.Test.YtodakphagkommaaGreatDoorProg
import Derived.Test.YtodakphagkommaaGreatDoorASB
namespace Go.Proofs.YtodakphagkommaaGreatDoor
section
open Go Go.Kn Go.Proofs
def Vz (c a:Nat):Bool:=c&&& a==c
theorem VX {c a s:Nat}(h:Vz c a=true)(g:Vz a s=true):Vz c s=true:=by
 unfold Vz at*
 rw [beq_iff_eq] at*
 calc c&&& s=(c&&& a)&&& s:=by rw [h]
  _=c&&& (a&&& s):=Nat.and_assoc ..
  _=c:=by rw [g,h]
theorem Wj {c a b:Nat}(h:Vz c a=true)(g:Vz c b=true)(e:b&&& a=0):c=0:=by
 unfold Vz at*
 rw [beq_iff_eq] at*
 calc c=(c&&& b)&&& a:=by rw [g,h]
  _=c&&& (b&&& a):=Nat.and_assoc ..
  _=0:=by rw [e];exact Nat.and_zero _
theorem K7 (a:Nat):Vz a a=true:=by unfold Vz;rw [Nat.and_self];exact beq_self_eq_true _
theorem znL {a b:Nat}(h:Vz a b=true)(g:Vz b a=true):a=b:=by
 unfold Vz at*
 rw [beq_iff_eq] at*
 calc a=a&&& b:=h.symm
  _=b&&& a:=Nat.and_comm ..
  _=b:=g
theorem Xk {a b:Nat}(h:Vz a b=true):a≤b:=by
 unfold Vz at h
 rw [beq_iff_eq] at h
 rw [←h];exact Nat.and_le_right
theorem zng:((List.range 64).all fun s=>(List.range 64).all fun a=> !Vz a s||((((s-a)&&& a)==0)&&Vz (s-a) s&&(zbD (a:Int)+zbD ((s-a:Nat):Int)==zbD (s:Int))))=true:=by kernel_rfl
theorem zab {s a:Nat}(hs:s<64)(ha:a<64)(h:Vz a s=true):(s-a)&&& a=0∧Vz (s-a) s=true∧zbD (a:Int)+zbD ((s-a:Nat):Int)=zbD (s:Int):=by
 have h0:=List.all_eq_true.1 zng s (List.mem_range.2 hs)
 have h0:=List.all_eq_true.1 h0 a (List.mem_range.2 ha)
 rw [h] at h0
 simpa [and_assoc] using h0
theorem zlY:((List.range 64).all fun s=>(List.range 64).all fun a=>JO (a:Int) (s:Int)==((a&&& s:Nat):Int))=true:=by kernel_rfl
theorem ztv {s a:Nat}(hs:s<64)(ha:a<64):JO (a:Int) (s:Int)=((a&&& s:Nat):Int):=by
 have h0:=List.all_eq_true.1 zlY s (List.mem_range.2 hs)
 have h0:=List.all_eq_true.1 h0 a (List.mem_range.2 ha)
 exact eq_of_beq h0
theorem zqn {s a:Int}(hs:0≤s∧s≤63)(ha:0≤a∧a≤63):(JO a s==a)=Vz a.toNat s.toNat:=by
 have h:=ztv (s:=s.toNat) (a:=a.toNat) (by omega) (by omega)
 rw [show ((s.toNat:Nat):Int)=s by omega,show ((a.toNat:Nat):Int)=a by omega] at h
 unfold Vz
 rw [h,Bool.eq_iff_iff,beq_iff_eq,beq_iff_eq]
 omega
def zkG (s:Nat):Nat:=(JO (s:Int) (IntKind.i64.wrap (0-(s:Int)))).toNat
theorem zqd:((List.range 64).all fun s=>s==0||(Vz (zkG s) s&&decide (1≤zkG s)&&(JO (s:Int) (IntKind.i64.wrap (0-(s:Int)))==(zkG s:Int))&&(!ZN (s:Int)||(zkG s==s&&zbD (s:Int)==1))))=true:=by kernel_rfl
theorem zaF {s:Nat}(h0:1≤s)(hs:s<64):Vz (zkG s) s=true∧1≤zkG s∧JO (s:Int) (IntKind.i64.wrap (0-(s:Int)))=(zkG s:Int)∧(ZN (s:Int)=true→zkG s=s∧zbD (s:Int)=1):=by
 have h:=List.all_eq_true.1 zqd s (List.mem_range.2 hs)
 have hne:(s==0)=false:=by simp;omega
 rw [hne,Bool.false_or] at h
 simp only [Bool.and_eq_true,Bool.or_eq_true,decide_eq_true_eq,beq_iff_eq,Bool.not_eq_true'] at h
 refine ⟨h.1.1.1,h.1.1.2,h.1.2,fun e=>?_⟩
 rcases h.2 with h | h
 ·
  rw [e] at h;cases h
 ·
  exact h
theorem zsA:((List.range 7).all fun n=>n==0||((List.range 64).all fun s=> !decide ((s:Int)≤ZK (n:Int))||Vz s (ZK (n:Int)).toNat)&&(zbD (ZK (n:Int))==n))=true:=by kernel_rfl
theorem zi1 {n:Nat}(h1:1≤n)(h6:n≤6):(∀ s:Nat,s<64→(s:Int)≤ZK (n:Int)→Vz s (ZK (n:Int)).toNat=true)∧zbD (ZK (n:Int))=n:=by
 have h:=List.all_eq_true.1 zsA n (List.mem_range.2 (by omega))
 have hne:(n==0)=false:=by simp;omega
 rw [hne,Bool.false_or,Bool.and_eq_true] at h
 refine ⟨fun s hs hle=>?_,eq_of_beq h.2⟩
 have:=List.all_eq_true.1 h.1 s (List.mem_range.2 hs)
 simpa [hle] using this
/-! ### Counting -/
def wN (p:Int→Bool)(cl:List Int):Nat:=(cl.map fun c=>if p c then 1 else 0).sum
def inS (s:Int)(c:Int):Bool:=Vz c.toNat s.toNat
theorem zfg {f g:Int→Nat}:∀ {cl:List Int},(∀ c∈cl,f c≤g c)→(cl.map f).sum≤(cl.map g).sum
 | [],_=>Nat.le_refl _
 | c::cl,h=>by
  have h1:=h c (List.mem_cons_self ..)
  have h2:=zfg (f:=f) (g:=g) (cl:=cl) fun x hx=>h x (List.mem_cons_of_mem _ hx)
  simp only [List.map_cons,List.sum_cons];omega
theorem zpO {f g:Int→Nat}:∀ {cl:List Int},(∀ c∈cl,f c≤g c)→(cl.map g).sum≤(cl.map f).sum→∀ c∈cl,f c=g c
 | [],_,_=>fun c hc=>by cases hc
 | x::cl,h,hs=>by
  have h1:=h x (List.mem_cons_self ..)
  have h2:=zfg (f:=f) (g:=g) (cl:=cl) fun x hx=>h x (List.mem_cons_of_mem _ hx)
  simp only [List.map_cons,List.sum_cons] at hs
  intro c hc
  rcases List.mem_cons.1 hc with rfl | hc
  ·
   omega
  ·
   exact zpO (f:=f) (g:=g) (cl:=cl) (fun x hx=>h x (List.mem_cons_of_mem _ hx)) (by omega) c hc
theorem WK {f g:Int→Nat}(cl:List Int):(cl.map fun c=>f c+g c).sum=(cl.map f).sum+(cl.map g).sum:=by
 induction cl with
 | nil=>rfl
 | cons c cl ih=>simp only [List.map_cons,List.sum_cons,ih];omega
theorem zor {s:Int}{cl:List Int}(h:s∈cl):1≤(cl.map fun c=>if c=s then 1 else 0).sum:=by
 induction cl with
 | nil=>cases h
 | cons c cl ih=>
  simp only [List.map_cons,List.sum_cons]
  rcases List.mem_cons.1 h with rfl | h
  ·
   rw [if_pos rfl];omega
  ·
   have:=ih h;omega
section
variable {n:Nat} {cl:List Int} (hc:Y8 n cl=0)
include hc
theorem zbJ {s:Int}(h:OkS n cl s):1≤s∧s≤63:=⟨h.1,Int.le_trans h.2.1 (JV (n:=(n:Int)) ⟨(Zy hc).1,(Zy hc).2.1⟩).2⟩
theorem zsL {s:Int}(h:s∈cl):OkS n cl s:=by
 obtain ⟨h1,h6,hlen,hin⟩:=Zy hc
 have h63:=hin s h
 refine ⟨h63.1,?_,by unfold WH;rw [Bool.or_eq_true];left;rw [List.any_eq_true];exact ⟨s,h,by simp⟩⟩
 obtain ⟨k,hk⟩:=List.getElem?_of_mem h
 have h4:(List.range cl.length).all (V8 (ZK n) cl)=true:=by
  have h:=hc
  unfold Y8 at h
  repeat (split at h; · cases h)
  rename_i h3 _ _
  simpa using h3
 exact (XV h4 hk).2
theorem YT {s:Int}(h:OkS n cl s)(h1:ZN s=false):s∈cl∧OkS n cl (Qx cl s)∧OkS n cl (s-Qx cl s)∧1≤Qx cl s∧Qx cl s<s∧Vz (Qx cl s).toNat s.toNat=true∧zhO (Qx cl s) s=true:=by
 have hle:=zbJ hc h
 have hin:s∈cl:=by
  have h4:=h.2.2
  unfold WH at h4
  rw [h1,Bool.or_false,List.any_eq_true] at h4
  obtain ⟨c,hc2,e⟩:=h4
  have:c=s:=by simpa using e
  exact this ▸ hc2
 have hz:(JO s (IntKind.i64.wrap (s-1))==0)=false:=by
  unfold ZN at h1
  rw [decide_eq_true (show s>0 by omega),Bool.true_and] at h1
  exact h1
 obtain ⟨o1,o2,o3,o4⟩:=zbL hc h hz
 obtain ⟨a1,a2,a3⟩:=Xf (Um hc s hin) (Nat.le_refl 1)
 have a3:Vv cl s (Qx cl s)=true:=a3
 unfold Vv at a3
 simp only [Bool.and_eq_true] at a3
 refine ⟨hin,o1,o2,o3,o4,?_,a3.1.1.2⟩
 rw [←zqn (by omega) (by omega)]
 exact a3.1.1.1
theorem zcJ:∀ (m:Nat) (s:Int),s.toNat≤m→OkS n cl s→zbD s≤wN (inS s) cl+1
 | 0,s,hm,h=>by have:=h.1;omega
 | m+1,s,hm,h=>by
  have hle:=zbJ hc h
  cases h1:ZN s with
  | true=>
   have:=(zaF (s:=s.toNat) (by omega) (by omega)).2.2.2
   rw [show ((s.toNat:Nat):Int)=s by omega] at this
   have:=(this h1).2
   omega
  | false=>
   obtain ⟨hin,o1,o2,o3,o4,o5,_⟩:=YT hc h h1
   have i1:=zcJ m _ (by omega) o1
   have i2:=zcJ m _ (by omega) o2
   obtain ⟨q1,q2,q3⟩:=zab (by omega) (by omega) o5
   rw [show (((Qx cl s).toNat:Nat):Int)=Qx cl s by omega,show ((s.toNat -(Qx cl s).toNat:Nat):Int)=s-Qx cl s by omega,show ((s.toNat:Nat):Int)=s by omega] at q3
   have hone:=zor hin
   have hpt:∀ c∈cl,((if c=s then 1 else 0)+((if inS (Qx cl s) c then 1 else 0)+(if inS (s-Qx cl s) c then 1 else 0)):Nat)≤if inS s c then 1 else 0:=fun c hcm=>by
    have hcle:=(Zy hc).2.2.2 c hcm
    unfold inS
    by_cases e:c=s
    ·
     subst e
     rw [if_pos rfl,if_pos (K7 _),if_neg,if_neg]
     ·
      omega
     ·
      intro g;have:=Xk g;omega
     ·
      intro g;have:=Xk g;omega
    ·
     rw [if_neg e]
     by_cases g1:Vz c.toNat (Qx cl s).toNat=true
     ·
      rw [if_pos g1,if_pos (VX g1 o5),if_neg]
      ·
       omega
      ·
       intro g2
       have g2:Vz c.toNat (s.toNat -(Qx cl s).toNat)=true:=by rw [←show (s-Qx cl s).toNat=s.toNat -(Qx cl s).toNat by omega];exact g2
       have:=Wj g1 g2 q1
       omega
     ·
      rw [if_neg g1]
      by_cases g2:Vz c.toNat (s-Qx cl s).toNat=true
      ·
       rw [if_pos g2,if_pos (VX (by rw [show s.toNat -(Qx cl s).toNat=(s-Qx cl s).toNat by omega] at q2;exact g2) (by rw [show (s-Qx cl s).toNat=s.toNat -(Qx cl s).toNat by omega];exact q2))]
       omega
      ·
       rw [if_neg g2];omega
   have hs:=zfg hpt
   rw [WK,WK] at hs
   unfold wN at*
   omega
def zrg (n:Nat)(cl:List Int)(s:Int):Prop:=OkS n cl s∧wN (inS s) cl+1=zbD s
theorem zmI:zrg n cl (ZK n):=by
 obtain ⟨h1,h6,hlen,hin⟩:=Zy hc
 obtain ⟨g1,g2⟩:=zi1 (n:=n) (by omega) (by omega)
 refine ⟨Xi hc,?_⟩
 have:wN (inS (ZK n)) cl=cl.length:=by
  unfold wN
  have:∀ l:List Int,(∀ c∈l,c∈cl)→(l.map fun c=>if inS (ZK n) c then 1 else 0).sum=l.length:=by
   intro l
   induction l with
   | nil=>intro _;rfl
   | cons c l ih=>
    intro hl
    have hcm:=hl c (List.mem_cons_self ..)
    have hle:=hin c hcm
    have:=(zsL hc hcm).2.1
    simp only [List.map_cons,List.sum_cons,List.length_cons,ih fun x hx=>hl x (List.mem_cons_of_mem _ hx)]
    have hs:inS (ZK n) c=true:=g1 c.toNat (by omega) (by omega)
    rw [if_pos hs];omega
  exact this cl fun _ h=>h
 omega
theorem zcZ {s:Int}(h:zrg n cl s)(h1:ZN s=false):zrg n cl (Qx cl s)∧zrg n cl (s-Qx cl s)∧∀ c∈cl,inS s c=true→c=s∨inS (Qx cl s) c=true∨inS (s-Qx cl s) c=true:=by
 have hle:=zbJ hc h.1
 obtain ⟨hin,o1,o2,o3,o4,o5,_⟩:=YT hc h.1 h1
 obtain ⟨q1,q2,q3⟩:=zab (by omega) (by omega) o5
 rw [show (((Qx cl s).toNat:Nat):Int)=Qx cl s by omega,show ((s.toNat -(Qx cl s).toNat:Nat):Int)=s-Qx cl s by omega,show ((s.toNat:Nat):Int)=s by omega] at q3
 have hone:=zor hin
 have i1:=zcJ hc _ _ (Nat.le_refl _) o1
 have i2:=zcJ hc _ _ (Nat.le_refl _) o2
 have hpt:∀ c∈cl,((if c=s then 1 else 0)+((if inS (Qx cl s) c then 1 else 0)+(if inS (s-Qx cl s) c then 1 else 0)):Nat)≤if inS s c then 1 else 0:=fun c hcm=>by
  have hcle:=(Zy hc).2.2.2 c hcm
  unfold inS
  by_cases e:c=s
  ·
   subst e
   rw [if_pos rfl,if_pos (K7 _),if_neg,if_neg]
   ·
    omega
   ·
    intro g;have:=Xk g;omega
   ·
    intro g;have:=Xk g;omega
  ·
   rw [if_neg e]
   by_cases g1:Vz c.toNat (Qx cl s).toNat=true
   ·
    rw [if_pos g1,if_pos (VX g1 o5),if_neg]
    ·
     omega
    ·
     intro g2
     have g2:Vz c.toNat (s.toNat -(Qx cl s).toNat)=true:=by rw [←show (s-Qx cl s).toNat=s.toNat -(Qx cl s).toNat by omega];exact g2
     have:=Wj g1 g2 q1
     omega
   ·
    rw [if_neg g1]
    by_cases g2:Vz c.toNat (s-Qx cl s).toNat=true
    ·
     rw [if_pos g2,if_pos (VX (by rw [show s.toNat -(Qx cl s).toNat=(s-Qx cl s).toNat by omega] at q2;exact g2) (by rw [show (s-Qx cl s).toNat=s.toNat -(Qx cl s).toNat by omega];exact q2))]
     omega
    ·
     rw [if_neg g2];omega
 have hs:=zfg hpt
 rw [WK,WK] at hs
 have hf:=h.2
 refine ⟨⟨o1,?_⟩,⟨o2,?_⟩,fun c hcm hsc=>?_⟩
 ·
  unfold wN at*;omega
 ·
  unfold wN at*;omega
 ·
  have he:=zpO hpt (by rw [WK,WK];unfold wN at*;omega) c hcm
  by_cases e:c=s
  ·
   exact .inl e
  ·
   rw [if_neg e,if_pos hsc] at he
   by_cases g1:inS (Qx cl s) c=true
   ·
    exact .inr (.inl g1)
   ·
    rw [if_neg g1] at he
    by_cases g2:inS (s-Qx cl s) c=true
    ·
     exact .inr (.inr g2)
    ·
     rw [if_neg g2] at he;omega
theorem zeL:∀ (m:Nat) (s:Int),s.toNat≤m→zrg n cl s→∀ c∈cl,inS s c=true→zrg n cl c
 | 0,s,hm,h=>by have:=h.1.1;omega
 | m+1,s,hm,h=>fun c hcm hsc=>by
  have hle:=zbJ hc h.1
  have hcle:=(Zy hc).2.2.2 c hcm
  by_cases e:c=s
  ·
   exact e ▸ h
  ·
   cases h1:ZN s with
   | true=>
    have:=(zaF (s:=s.toNat) (by omega) (by omega)).2.2.2
    rw [show ((s.toNat:Nat):Int)=s by omega] at this
    have hp:=(this h1).2
    have hf:=h.2
    have hz:∀ l:List Int,c∈l→1≤wN (inS s) l:=by
     intro l
     induction l with
     | nil=>intro h;cases h
     | cons x l ih=>
      intro hx
      unfold wN at*
      simp only [List.map_cons,List.sum_cons]
      rcases List.mem_cons.1 hx with rfl | hx
      ·
       rw [if_pos hsc];omega
      ·
       have:=ih hx;omega
    have:=hz cl hcm
    omega
   | false=>
    obtain ⟨f1,f2,f3⟩:=zcZ hc h h1
    obtain ⟨_,o1,o2,o3,o4,_,_⟩:=YT hc h.1 h1
    rcases f3 c hcm hsc with e' | g | g
    ·
     exact absurd e' e
    ·
     exact zeL m _ (by omega) f1 c hcm g
    ·
     exact zeL m _ (by omega) f2 c hcm g
theorem ztl {c:Int}(h:c∈cl):zrg n cl c:=by
 obtain ⟨h1,h6,hlen,hin⟩:=Zy hc
 have hle:=hin c h
 exact zeL hc _ _ (Nat.le_refl _) (zmI hc) c h ((zi1 (n:=n) (by omega) (by omega)).1 c.toNat (by omega) (by have:=(zsL hc h).2.1;omega))
theorem zhK {s a:Int}(hs:s∈cl)(h1:ZN s=false)(ha:1≤a∧a<s)(h:Vv cl s a=true):a=Qx cl s:=by
 have hle:=(Zy hc).2.2.2 s hs
 obtain ⟨_,_,f3⟩:=zcZ hc (ztl hc hs) h1
 obtain ⟨_,o1,o2,o3,o4,o5,o6⟩:=YT hc (zsL hc hs) h1
 obtain ⟨q1,q2,q3⟩:=zab (by omega) (by omega) o5
 generalize Qx cl s=b at*
 unfold Vv at h
 simp only [Bool.and_eq_true] at h
 obtain ⟨⟨⟨k1,k2⟩,k3⟩,k4⟩:=h
 rw [zqn (by omega) (by omega)] at k1
 obtain ⟨p1,p2,p3⟩:=zab (by omega) (by omega) k1
 have la:=zaF (s:=a.toNat) (by omega) (by omega)
 have lb:=zaF (s:=b.toNat) (by omega) (by omega)
 have ls:=zaF (s:=s.toNat) (by omega) (by omega)
 rw [show ((a.toNat:Nat):Int)=a by omega] at la
 rw [show ((b.toNat:Nat):Int)=b by omega] at lb
 rw [show ((s.toNat:Nat):Int)=s by omega] at ls
 unfold zhO at k2 o6
 rw [beq_iff_eq,la.2.2.1,ls.2.2.1] at k2
 rw [beq_iff_eq,lb.2.2.1,ls.2.2.1] at o6
 have eab:zkG a.toNat=zkG b.toNat:=by omega
 have esb:(s-b).toNat=s.toNat -b.toNat:=by omega
 have esa:(s-a).toNat=s.toNat -a.toNat:=by omega
 -- a lies ZO b
 have hab:Vz a.toNat b.toNat=true:=by
  cases hsa:ZN a with
  | true=>
   have:=(la.2.2.2 hsa).1
   rw [←this,eab];exact lb.1
  | false=>
   unfold WH at k3
   rw [hsa,Bool.or_false,List.any_eq_true] at k3
   obtain ⟨c,hcm,e⟩:=k3
   have:c=a:=by simpa using e
   subst this
   rcases f3 c hcm k1 with e | g | g
   ·
    omega
   ·
    exact g
   ·
    exfalso
    have g:Vz c.toNat (s.toNat -b.toNat)=true:=by rw [←esb];exact g
    have:=Wj (VX (eab ▸ la.1:Vz (zkG b.toNat) c.toNat=true) g) lb.1 (by rw [Nat.and_comm];exact q1)
    have:=la.2.1
    omega
 have hle2:=Xk hab
 -- what is left of b lies ZO what is left of a
 have hbb:Vz (s.toNat -b.toNat) (s.toNat -a.toNat)=true:=by
  by_cases e:(s.toNat -b.toNat)<64∧(s.toNat -a.toNat)<64
  ·
   have:∀ x y z:Nat,x<64→y<64→z<64→Vz x z=true→Vz y z=true→Vz x y=true→Vz (z-y) (z-x)=true:=by
    intro x y z _ _ hz hx hy hxy
    have e1:∀ u v:Nat,v<64→Vz u v=true→v-u=v^^^u:=by
     intro u v hv hu
     have hu64:u<64:=Nat.lt_of_le_of_lt (Xk hu) hv
     have ht:((List.range 64).all fun v=>(List.range 64).all fun u=> !Vz u v||(v-u==v^^^u))=true:=by kernel_rfl
     have h0:=List.all_eq_true.1 ht v (List.mem_range.2 hv)
     have h0:=List.all_eq_true.1 h0 u (List.mem_range.2 hu64)
     rw [hu] at h0
     simpa using h0
    rw [e1 _ _ hz hy,e1 _ _ hz hx]
    unfold Vz at*
    rw [beq_iff_eq] at*
    apply Nat.eq_of_testBit_eq
    intro i
    have t1:=congrArg (fun q=>Nat.testBit q i) hx
    have t2:=congrArg (fun q=>Nat.testBit q i) hy
    have t3:=congrArg (fun q=>Nat.testBit q i) hxy
    simp only [Nat.testBit_and,Nat.testBit_xor] at*
    revert t1 t2 t3
    cases x.testBit i<;>cases y.testBit i<;>cases z.testBit i<;>simp
   exact this a.toNat b.toNat s.toNat (by omega) (by omega) (by omega) k1 o5 hab
  ·
   omega
 have hpos:1≤s.toNat -b.toNat:=by omega
 have hba:Vz (s.toNat -a.toNat) (s.toNat -b.toNat)=true:=by
  cases hsa:ZN (s-a) with
  | true=>
   have l1:=zaF (s:=s.toNat -a.toNat) (by omega) (by omega)
   have l2:=zaF (s:=s.toNat -b.toNat) (by omega) (by omega)
   rw [show ((s.toNat -a.toNat:Nat):Int)=s-a by omega] at l1
   have l3:=(l1.2.2.2 hsa).2
   -- one witness: what lies ZO it is it
   have ht:((List.range 64).all fun v=>(List.range 64).all fun u=> !Vz u v||u==0|| !(zbD (v:Int)==1)||(v==u))=true:=by kernel_rfl
   have h0:=List.all_eq_true.1 ht (s.toNat -a.toNat) (List.mem_range.2 (by omega))
   have h0:=List.all_eq_true.1 h0 (s.toNat -b.toNat) (List.mem_range.2 (by omega))
   rw [hbb,show ((s.toNat -a.toNat:Nat):Int)=s-a by omega,l3,show ((s.toNat -b.toNat)==0)=false by simp;omega] at h0
   have h0:s.toNat -a.toNat=s.toNat -b.toNat:=by simpa using h0
   rw [h0];exact K7 _
  | false=>
   unfold WH at k4
   rw [hsa,Bool.or_false,List.any_eq_true] at k4
   obtain ⟨c,hcm,e⟩:=k4
   have:c=s-a:=by simpa using e
   subst this
   rcases f3 _ hcm (by unfold inS;rw [esa];exact p2) with e | g | g
   ·
    omega
   ·
    exfalso
    unfold inS at g
    rw [esa] at g
    have:=Wj (VX hbb g) (K7 (s.toNat -b.toNat)) q1
    omega
   ·
    unfold inS at g
    rw [esa,esb] at g;exact g
 have:=znL hbb hba
 omega
omit hc in
theorem zm8 {s a:Int} (h0:0≤s):a∈zs5 s.toNat→(1≤a∧a<s)∧JO a s=a:=fun h=>by
 unfold zs5 at h
 obtain ⟨h1,h2⟩:=List.mem_filter.1 h
 obtain ⟨k,hk,rfl⟩:=List.mem_map.1 h1
 have:=List.mem_range'_1.1 hk
 rw [show ((s.toNat:Nat):Int)=s by omega] at h2
 exact ⟨by omega,eq_of_beq h2⟩
theorem zfP {s:Int}(hs:s∈cl)(h1:ZN s=false):ze0 cl s=Qx cl s∧zeg cl s=s-Qx cl s∧(WO cl s).isSome=true:=by
 have hle:=(Zy hc).2.2.2 s hs
 have hne:=Um hc s hs
 have hsome:=zdJ (cl:=cl) hle
 have hsm:(WO cl s).isSome=true:=by rw [hsome];simpa using hne
 obtain ⟨a,hpa⟩:=Option.isSome_iff_exists.1 hsm
 have htab:=List.all_eq_true.1 zh8 s.toNat (List.mem_range.2 (by omega))
 rw [Bool.and_eq_true,decide_eq_true_eq,show ((s.toNat:Nat):Int)=s by omega] at htab
 have hf:=hpa
 unfold WO at hf
 rw [WQ,htab.1] at hf
 have hp:=List.find?_some hf
 have hm:=List.mem_reverse.1 (List.mem_of_find?_eq_some hf)
 obtain ⟨hr,ha⟩:=zm8 (s:=s) (by omega) hm
 have hl:zd0 s a=s-a:=by simpa using List.all_eq_true.1 htab.2 a hm
 rw [zeJ ha hl] at hp
 have:=zhK hc hs h1 hr hp
 unfold ze0 zeg
 rw [hpa]
 exact ⟨this,by rw [←this];exact hl,rfl⟩
end
end
section
open Go Go.Kn Go.Proofs
def ImO (I:Qw)(r:Nat)(o:Obj):Prop:=I r=some o
theorem ImO.mono {I I':Qw}{r:Nat}{o:Obj}(h:ImO I r o)(hI:HLe I I'):ImO I' r o:=hI _ _ h
def zxW (st cs:List Int)(b:Int):Value→Qw→Go.Kn.Loc→Prop:=fun v I' L=>L=[]∧∃ r m,v= .map (some r)∧ImO I' r (Z0 eiv eiv m)∧zdX st cs b m
theorem zae:∀ (ns out:List Int) (x:Int),x∈ns.foldl stS out↔x∈out∨(x∈ns∧x≠8589934592)
 | [],out,x=>by simp
 | n::ns,out,x=>by
  rw [List.foldl_cons,zae ns]
  have:x∈stS out n↔x∈out∨(x=n∧n≠8589934592):=by
   unfold stS
   split
   ·
    rename_i h
    rw [Bool.or_eq_true,List.any_eq_true] at h
    constructor
    ·
     exact fun h=>.inl h
    ·
     rintro (h2 | ⟨rfl,h2⟩)
     ·
      exact h2
     ·
      rcases h with h | ⟨y,hy,e⟩
      ·
       exact absurd (eq_of_beq h) h2
      ·
       rw [←eq_of_beq e];exact hy
   ·
    rename_i h
    rw [Bool.or_eq_true,not_or] at h
    rw [List.mem_append,List.mem_singleton]
    constructor
    ·
     rintro (h2 | rfl)
     ·
      exact .inl h2
     ·
      exact .inr ⟨rfl,fun e=>h.1 (by rw [e];rfl)⟩
    ·
     rintro (h2 | ⟨rfl,_⟩)
     ·
      exact .inl h2
     ·
      exact .inr rfl
  rw [this,List.mem_cons]
  constructor
  ·
   rintro ((h | ⟨rfl,h⟩) | ⟨h,h2⟩)
   ·
    exact .inl h
   ·
    exact .inr ⟨.inl rfl,h⟩
   ·
    exact .inr ⟨.inr h,h2⟩
  ·
   rintro (h | ⟨rfl | h,h2⟩)
   ·
    exact .inl (.inl h)
   ·
    exact .inl (.inr ⟨rfl,h2⟩)
   ·
    exact .inr ⟨h,h2⟩
theorem za7:∀ (ns out:List Int),out.Nodup→(ns.foldl stS out).Nodup
 | [],_,h=>h
 | n::ns,out,h=>by
  rw [List.foldl_cons]
  refine za7 ns _ ?_
  unfold stS
  split
  ·
   exact h
  ·
   rename_i h2
   rw [Bool.or_eq_true,not_or,List.any_eq_true] at h2
   refine List.nodup_append.2 ⟨h,by simp,fun a ha b hb e=>?_⟩
   simp at hb
   subst hb;subst e
   exact h2.2 ⟨a,ha,by simp⟩
theorem zrP (rows:List (List Int))(l:Nat):(QF rows l).Nodup:=za7 _ _ (by simp)
theorem zbj {rows:List (List Int)}{l:Nat}{x:Int}:x∈QF rows l↔x=0∨((∃ r∈rows,r.getD l 0=x)∧x≠8589934592):=by
 unfold QF
 rw [zae]
 simp
def stM (rows:List (List Int))(l:Nat):List (Int×Int):=(QF rows l).map fun x=>(x,0)
theorem zja (rows:List (List Int))(l:Nat):(stM rows l).map (·.1)=QF rows l:=by unfold stM;simp [Function.comp_def]
theorem zoR {rows:List (List Int)}{l i:Nat}{p:Int×Int}(h:(stM rows l)[i]? =some p):p.1∈QF rows l∧p.2=0:=by
 unfold stM at h
 rw [List.getElem?_map] at h
 obtain ⟨x,hx,rfl⟩:=Option.map_eq_some_iff.1 h
 exact ⟨List.mem_of_getElem? hx,rfl⟩
def zg6 (rows:List (List Int))(l:Nat)(seen:List Nat):List Int:=(zjK (stM rows l) seen).map (·.1)
theorem X4 {rows:List (List Int)}{l i:Nat}{seen:List Nat}{p:Int×Int}(h:(stM rows l)[i]? =some p):zg6 rows l (seen++[i])=zg6 rows l seen++[p.1]:=by unfold zg6;rw [zcv h,List.map_append];rfl
theorem zoi {rows:List (List Int)}{l i:Nat}{seen:List Nat}{p:Int×Int}(h:(stM rows l)[i]? =some p)(hs:i∉seen):p.1∉zg6 rows l seen:=fun hm=>by
 obtain ⟨q,hq,e⟩:=List.mem_map.1 hm
 obtain ⟨j,hj,hqj⟩:=zk4.1 hq
 have hnd:=zrP rows l
 rw [←zja] at hnd
 have h1:((stM rows l).map (·.1))[i]? =some p.1:=by rw [List.getElem?_map,h];rfl
 have h2:((stM rows l).map (·.1))[j]? =some p.1:=by rw [List.getElem?_map,hqj,←e];rfl
 obtain ⟨g1,e1⟩:=List.getElem?_eq_some_iff.1 h1
 obtain ⟨g2,e2⟩:=List.getElem?_eq_some_iff.1 h2
 have:=(List.getElem_inj hnd).1 (show ((stM rows l).map (·.1))[i]=((stM rows l).map (·.1))[j] by rw [e1,e2])
 exact hs (this ▸ hj)
theorem zgu {rows:List (List Int)}{l:Nat}{seen:List Nat}{x:Int}(h:x∈zg6 rows l seen):x∈QF rows l:=by
 obtain ⟨q,hq,rfl⟩:=List.mem_map.1 h
 obtain ⟨j,_,hqj⟩:=zk4.1 hq
 exact (zoR hqj).1
theorem zgT {rows:List (List Int)}{l:Nat}{seen:List Nat}(hnd:seen.Nodup)(hlt:∀ i∈seen,i<(stM rows l).length)(hall:∀ i (p:Int×Int),(stM rows l)[i]? =some p→i∈seen)(x:Int):x∈zg6 rows l seen↔x∈QF rows l:=by
 have:=(zem hnd hlt hall).map (fun p=>p.1)
 rw [zja] at this
 exact this.mem_iff
/-! ### A single witness -/
def Xu (rows:List (List Int))(l:Nat)(u:Int)(seen:List Nat)(x:Int):Option Int:=if x∈zg6 rows l seen∧Yn u x=0 then some 0 else none
theorem zkI {rows:List (List Int)}{l:Nat}{u:Int}:UR [] (Xu rows l u []):=UR.nil.congr fun x=>by unfold Xu zg6 zjK;simp
theorem zki {rows:List (List Int)}{l:Nat}{u:Int}{seen:List Nat}{i:Nat}{p:Int×Int}{m:List (Int×Int)}(h:UR m (Xu rows l u seen))(hp:(stM rows l)[i]? =some p)(hg:Yn u p.1=0):UR (YE m p.1 0) (Xu rows l u (seen++[i])):=
 (h.set p.1 0).congr fun x=>by
  unfold Xu
  rw [X4 hp];simp only [List.mem_append,List.mem_singleton]
  by_cases e:p.1=x
  ·
   subst e
   rw [if_pos rfl,if_pos ⟨.inr rfl,hg⟩]
  ·
   rw [if_neg e]
   by_cases g:x∈zg6 rows l seen∧Yn u x=0
   ·
    rw [if_pos g,if_pos ⟨.inl g.1,g.2⟩]
   ·
    rw [if_neg g,if_neg]
    rintro ⟨h1 | h1,h2⟩
    ·
     exact g ⟨h1,h2⟩
    ·
     exact e h1.symm
theorem zml {rows:List (List Int)}{l:Nat}{u:Int}{seen:List Nat}{i:Nat}{p:Int×Int}{m:List (Int×Int)}(h:UR m (Xu rows l u seen))(hp:(stM rows l)[i]? =some p)(hg:Yn u p.1≠0):UR m (Xu rows l u (seen++[i])):=
 h.congr fun x=>by
  unfold Xu
  rw [X4 hp];simp only [List.mem_append,List.mem_singleton]
  by_cases g:x∈zg6 rows l seen∧Yn u x=0
  ·
   rw [if_pos g,if_pos ⟨.inl g.1,g.2⟩]
  ·
   rw [if_neg g,if_neg]
   rintro ⟨h1 | h1,h2⟩
   ·
    exact g ⟨h1,h2⟩
   ·
    subst h1;exact hg h2
theorem zbT {u x:Int}(h:(u==x||u==8589934592)=true):Yn u x=0:=by
 unfold Yn
 rw [if_neg]
 rw [Bool.or_eq_true,beq_iff_eq,beq_iff_eq] at h
 simp only [Bool.and_eq_true,decide_eq_true_eq]
 rintro ⟨h1,h2⟩
 rcases h with h | h
 ·
  exact h2 h
 ·
  exact h1 h
theorem zjf {u x:Int}(h:(u==x||u==8589934592)=false):Yn u x=1048576∧Yn u x≠0:=by
 have:Yn u x=1048576:=by
  unfold Yn
  rw [if_pos]
  rw [Bool.or_eq_false_iff,beq_eq_false_iff_ne,beq_eq_false_iff_ne] at h
  simp only [Bool.and_eq_true,decide_eq_true_eq]
  exact ⟨h.2,h.1⟩
 exact ⟨this,by omega⟩
theorem zmt {rows:List (List Int)}{l w:Nat}{v:List Int}{seen:List Nat}{m:List (Int×Int)}{b:Int}(hb:0≤b)(hv:rows[w]? =some v)(h:UR m (Xu rows l (v.getD l 0) seen))(hnd:seen.Nodup)(hlt:∀ i∈seen,i<(stM rows l).length)(hall:∀ i (p:Int×Int),(stM rows l)[i]? =some p→i∈seen):
  zdX (QF rows l) ((QF rows l).map (Yn ((rows.getD w []).getD l 0))) b m:=by
 rw [QN hv]
 have hgv:∀ x,Yn (v.getD l 0) x=0∨Yn (v.getD l 0) x=1048576:=fun x=>by
  cases e:(v.getD l 0==x||v.getD l 0==8589934592) with
  | true=>exact .inl (zbT e)
  | false=>exact .inr (zjf e).1
 refine ⟨by rw [List.length_map],h.nd,fun i x c hx hcx=>?_,fun p hp=>?_,?_,fun c hcm=>?_⟩
 ·
  rw [List.getElem?_map,hx] at hcx
  simp only [Option.map_some,Option.some.injEq] at hcx
  subst hcx
  rw [h.get]
  unfold Xu
  have hin:=(zgT hnd hlt hall x).2 (List.mem_of_getElem? hx)
  rcases hgv x with e | e
  ·
   rw [if_pos ⟨hin,e⟩,e,if_pos (by omega)]
  ·
   rw [if_neg (fun g=>by omega),e,if_neg (by omega)]
 ·
  have:=h.mem hp
  unfold Xu at this
  split at this
  ·
   rename_i g;exact zgu g.1
  ·
   cases this
 ·
  by_cases e:v.getD l 0=8589934592
  ·
   refine ⟨Yn (v.getD l 0) 0,List.mem_map.2 ⟨0,zbj.2 (.inl rfl),rfl⟩,?_⟩
   rw [zbT (by rw [e];simp)];omega
  ·
   refine ⟨Yn (v.getD l 0) (v.getD l 0),List.mem_map.2 ⟨v.getD l 0,zbj.2 (.inr ⟨⟨v,List.mem_of_getElem? hv,rfl⟩,e⟩),rfl⟩,?_⟩
   rw [zbT (by simp)];omega
 ·
  obtain ⟨x,_,rfl⟩:=List.mem_map.1 hcm
  rcases hgv x with e | e<;>rw [e]<;>omega
/-! ### Two parts -/
def zfW (st ca cb:List Int)(j:Nat)(x:Int):Int:=(if 1≤j then Yc st ca x else 0)+(if 2≤j then Yc st cb x else 0)
def gF (st ca cb:List Int)(j:Nat)(x:Int):Option Int:=if x∈st∧1≤j then some (zfW st ca cb j x) else none
def hF (rows:List (List Int))(l:Nat)(ca cb:List Int)(j:Nat)(seen:List Nat)(x:Int):Option Int:=if x∈zg6 rows l seen then some (zfW (QF rows l) ca cb (j+1) x) else gF (QF rows l) ca cb j x
theorem zz6 {st ca cb:List Int}:UR [] (gF st ca cb 0):=UR.nil.congr fun x=>by unfold gF;rw [if_neg (fun h=>by omega)]
theorem zAd {rows:List (List Int)}{l j:Nat}{ca cb:List Int}{m:List (Int×Int)}(h:UR m (gF (QF rows l) ca cb j)):UR m (hF rows l ca cb j []):=h.congr fun x=>by unfold hF zg6 zjK;simp
theorem zw9 {rows:List (List Int)}{l j:Nat}{ca cb:List Int}{m:List (Int×Int)}{seen:List Nat}(h:UR m (hF rows l ca cb j seen))(hnd:seen.Nodup)(hlt:∀ i∈seen,i<(stM rows l).length)(hall:∀ i (p:Int×Int),(stM rows l)[i]? =some p→i∈seen):UR m (gF (QF rows l) ca cb (j+1)):=
 h.congr fun x=>by
  unfold hF
  by_cases g:x∈zg6 rows l seen
  ·
   rw [if_pos g];unfold gF;rw [if_pos ⟨zgu g,by omega⟩]
  ·
   have g':x∉QF rows l:=fun e=>g ((zgT hnd hlt hall x).2 e)
   rw [if_neg g];unfold gF;rw [if_neg (fun e=>g' e.1),if_neg (fun e=>g' e.1)]
theorem zzj {rows:List (List Int)}{l j:Nat}{ca cb:List Int}{m:List (Int×Int)}{seen:List Nat}{i:Nat}{p:Int×Int}(h:UR m (hF rows l ca cb j seen))(hp:(stM rows l)[i]? =some p)(hs:i∉seen):(ZH m p.1).getD 0=zfW (QF rows l) ca cb j p.1:=by
 rw [h.get]
 unfold hF
 rw [if_neg (zoi hp hs)]
 unfold gF
 by_cases e:1≤j
 ·
  rw [if_pos ⟨(zoR hp).1,e⟩];rfl
 ·
  rw [if_neg (fun g=>e g.2)]
  unfold zfW
  rw [if_neg e,if_neg (by omega)];rfl
theorem zfn {st ca cb:List Int}{j:Nat}{x:Int}(hj:j<2):zfW st ca cb j x+Yc st (if j=0 then ca else cb) x=zfW st ca cb (j+1) x:=by
 unfold zfW
 rcases (show j=0∨j=1 by omega) with e | e<;>subst e<;>simp
theorem zo5 {rows:List (List Int)}{l j:Nat}{ca cb:List Int}{m:List (Int×Int)}{seen:List Nat}{i:Nat}{p:Int×Int}(h:UR m (hF rows l ca cb j seen))(hp:(stM rows l)[i]? =some p):UR (YE m p.1 (zfW (QF rows l) ca cb (j+1) p.1)) (hF rows l ca cb j (seen++[i])):=
 (h.set p.1 _).congr fun x=>by
  unfold hF
  rw [X4 hp];simp only [List.mem_append,List.mem_singleton]
  by_cases e:p.1=x
  ·
   subst e
   rw [if_pos rfl,if_pos (.inr rfl)]
  ·
   rw [if_neg e]
   by_cases g:x∈zg6 rows l seen
   ·
    rw [if_pos g,if_pos (.inl g)]
   ·
    rw [if_neg g,if_neg]
    rintro (h1 | h1)
    ·
     exact g h1
    ·
     exact e h1.symm
theorem zqY {st ca cb:List Int}{ba bb b:Int}{ma mb m:List (Int×Int)}(hne:st≠[])(hA:zdX st ca ba ma)(hB:zdX st cb bb mb)(h1:ba≤1000)(h2:bb≤1000)(hb:ba+bb+8≤b)(h:UR m (gF st ca cb 2)):zdX st (st.map (zhy st ca cb)) b m:=by
 have ha:∀ x,0≤Yc st ca x∧Yc st ca x≤ba+4:=fun x=>by
  have:=Ug hA h1 (.refl _) x
  exact ⟨this.2.1,this.2.2.1⟩
 have hbb:∀ x,0≤Yc st cb x∧Yc st cb x≤bb+4:=fun x=>by
  have:=Ug hB h2 (.refl _) x
  exact ⟨this.2.1,this.2.2.1⟩
 have hlt:∀ x,0≤zhy st ca cb x∧zhy st ca cb x<1048576∧zhy st ca cb x≤b:=fun x=>by
  have:=ha x;have:=hbb x
  unfold zhy;omega
 refine ⟨by rw [List.length_map],h.nd,fun i x c hx hcx=>?_,fun p hp=>?_,?_,fun c hcm=>?_⟩
 ·
  rw [List.getElem?_map,hx] at hcx
  simp only [Option.map_some,Option.some.injEq] at hcx
  subst hcx
  rw [h.get,if_pos (hlt x).2.1]
  unfold gF
  rw [if_pos ⟨List.mem_of_getElem? hx,by omega⟩]
  unfold zfW zhy;simp
 ·
  have:=h.mem hp
  unfold gF at this
  split at this
  ·
   rename_i g;exact g.1
  ·
   cases this
 ·
  obtain ⟨x,hx⟩:=List.exists_mem_of_ne_nil st hne
  exact ⟨_,List.mem_map.2 ⟨x,hx,rfl⟩,(hlt x).2.1⟩
 ·
  obtain ⟨x,_,rfl⟩:=List.mem_map.1 hcm
  have:=hlt x
  exact ⟨this.1,fun _=>this.2.2,by omega⟩
theorem zkb {st cs:List Int}{b:Int}{m vs:List (Int×Int)}(h:zdX st cs b m)(hp:vs.Perm m):ZP (vs.map (·.2))=ZP cs:=by
 obtain ⟨c,hc,hlt⟩:=h.pos
 have hne:cs≠[]:=List.ne_nil_of_mem hc
 obtain ⟨h1,h2⟩:=WB hne
 have h3:=h2 c hc
 obtain ⟨i,hi⟩:=List.getElem?_of_mem h1
 have hil:=(List.getElem?_eq_some_iff.1 hi).1
 have hx:st[i]? =some (st[i]'(by rw [←h.len];exact hil)):=List.getElem?_eq_getElem _
 have hm:=h.ent.2 ⟨i,hx,hi,by omega⟩
 refine zfy (List.mem_map.2 ⟨_,hp.mem_iff.2 hm,rfl⟩) (fun x hx=>?_)
 obtain ⟨p,hpm,rfl⟩:=List.mem_map.1 hx
 obtain ⟨j,_,hj,_⟩:=(h.ent (x:=p.1) (c:=p.2)).1 (hp.mem_iff.1 hpm)
 exact h2 _ (List.mem_of_getElem? hj)
section
variable {C:Cx} {E:Env} {I:Qw} {loc:Go.Kn.Loc} {S:GS} {dst:Option Tmp} {ty:TypeId} {pos:String} {af:Array Edge} {gd:Option (Nat×Bool)} {x y:Operand} {a:Int}
theorem za4 {m:List (Int×Int)}{t k e r:Nat}(hT:MpT C.P t k e (.int .i64 0))(hK:Jr C.P k eiv)(hx:QE S E x=some (.map (some r)))(hy:QE S E y=some (eiv a))(hm:ZV S=true→Mem I loc r (Z0 eiv eiv m)):
  QZ C S E I loc ⟨dst,.lookup t x y false,ty,pos,af,gd⟩ (.int .i64 ((ZH m a).getD 0)):=by
 have:=KZ (C:=C) (S:=S) (dst:=dst) (ty:=ty) (pos:=pos) (af:=af) (gd:=gd) hT hK hx hy hm
 cases h:ZH m a with
 | none=>rw [h] at this;exact this
 | some b=>rw [h] at this;exact this
end
theorem zlR {I:Qw}{b j ra rb r:Nat}{e:TypeId}{fz:Nat×Nat}{l:Go.Kn.Loc}(hr:(if j=0 then ra else rb)=r)(h:j<2):QY I ((b,.cells (([[Value.map (some ra)],[Value.map (some rb)]]:List (List Value)).flatten).toArray e fz)::l) b (((j:Nat):Int).toNat*1) (.map (some r)):=by
 subst hr
 rcases (show j=0∨j=1 by omega) with e | e<;>subst e<;>exact .here rfl
theorem zdX.small {st cs:List Int}{b:Int}{m:List (Int×Int)}(h:zdX st cs b m):m.length≤st.length:=by
 have:=h.nd.length_le_of_subset (l₂:=st) (fun x hx=>by
  obtain ⟨p,hp,rfl⟩:=List.mem_map.1 hx
  exact h.old p hp)
 simpa using this
theorem zvv {st ca cb:List Int}{ba bb:Int}{ma mb:List (Int×Int)}(hA:zdX st ca ba ma)(hB:zdX st cb bb mb)(h1:ba≤1000)(h2:bb≤1000)(j:Nat)(x:Int):0≤zfW st ca cb j x∧zfW st ca cb j x≤3000:=by
 have a:=Ug hA h1 (.refl _) x
 have b:=Ug hB h2 (.refl _) x
 unfold zfW
 split<;>split<;>omega
structure PrE (I:Qw)(fid brow bloc bcst bcla bbel rm:Nat)(av bv:Option Addr)(n c n2 c2:Nat)(xs:List Int)(rows:List (List Int))(l:Nat):Prop where
 row:QY I [] brow 0 (.slice bv n2 c2)
 loc:QY I [] bloc 0 (.int .i64 l)
 cst:QY I [] bcst 0 (.map (some rm))
 cla:QY I [] bcla 0 (.slice av n c)
 bel:QY I [] bbel 0 (.func (.func fid) #[] #[Ze brow,Ze bloc,Ze bcst,Ze bcla,Ze bbel])
 mp:ImO I rm (Z0 eiv eiv (stM rows l))
 deb:V5 I
 hS:Sl I 1 QP av n c xs
 hV:SlN I bv n2 c2 rows
theorem PrE.mono {I I':Qw}{fid brow bloc bcst bcla bbel rm:Nat}{av bv:Option Addr}{n c n2 c2:Nat}{xs:List Int}{rows:List (List Int)}{l:Nat}(h:PrE I fid brow bloc bcst bcla bbel rm av bv n c n2 c2 xs rows l)(hI:HLe I I'):PrE I' fid brow bloc bcst bcla bbel rm av bv n c n2 c2 xs rows l:=
 ⟨h.row.mono hI,h.loc.mono hI,h.cst.mono hI,h.cla.mono hI,h.bel.mono hI,h.mp.mono hI,h.deb.mono hI,h.hS.mono hI,h.hV.mono hI⟩
theorem zse:((List.range 64).all fun s=>IntKind.u64.wrap (s:Int)==(s:Int))=true:=by kernel_rfl
theorem zwJ {s:Int}(hs:0≤s∧s≤63):IntKind.u64.wrap s=s:=by
 have h:=List.all_eq_true.1 zse s.toNat (List.mem_range.2 (by omega))
 rw [show ((s.toNat:Nat):Int)=s by omega] at h
 exact eq_of_beq h
theorem ztj {rows:List (List Int)}{l k:Nat}{r:List Int}(h:rows[k]? =some r)(hne:r.getD l 0≠8589934592):YE (stM (rows.take k) l) (r.getD l 0) 0=stM (rows.take (k+1)) l:=by
 have hst:=zbF (l:=l) h
 unfold stM
 rw [hst]
 cases e:(QF (rows.take k) l).any (fun x=>x==r.getD l 0) with
 | true=>
  rw [zh0 (by rw [e,Bool.or_true])]
  refine Wl _ _ _ ?_
  obtain ⟨x,hx,hxe⟩:=List.any_eq_true.1 e
  have hxe:=eq_of_beq hxe
  subst hxe
  have hnd:=zrP (rows.take k) l
  have:=zbz (m:=(QF (rows.take k) l).map fun x=>(x,(0:Int))) (by rw [List.map_map];simpa [Function.comp_def] using hnd) (List.mem_map.2 ⟨_,hx,rfl⟩)
  exact this
 | false=>
  rw [zwN (by rw [e,Bool.or_false];exact beq_eq_false_iff_ne.2 hne),List.map_append]
  refine XH _ _ _ 0 ?_
  have hn:ZH ((QF (rows.take k) l).map fun x=>(x,(0:Int))) (r.getD l 0)=none:=U0.2 (by
   rw [List.map_map]
   intro hm
   obtain ⟨x,hx,hxe⟩:=List.mem_map.1 hm
   have:=List.any_eq_false.1 e x hx
   exact this (by simpa using hxe))
  rw [←Kg _ _ 0] at hn
  exact Option.map_eq_none_iff.1 hn
theorem znh {rows:List (List Int)}{l k:Nat}{r:List Int}(h:rows[k]? =some r)(he:r.getD l 0=8589934592):stM (rows.take k) l=stM (rows.take (k+1)) l:=by
 have hst:=zbF (l:=l) h
 unfold stM
 rw [hst,zh0 (by rw [he];rfl)]
end
section
open Go Go.Kn Go.Proofs
theorem zsn:ArT Tryz.prog 290 64 5 1:=.of (by kernel_rfl)
theorem zqk:CvT Tryz.prog 5 3 .i64:=⟨by kernel_rfl,by kernel_rfl⟩
theorem zq6:Fun Tryz.prog 250:=.of Tryz.func250 (by kernel_rfl) (by kernel_rfl)
theorem zyJ:ScT Tryz.prog 5:=.of (by kernel_rfl)
theorem zvW {I:Qw}(hD:V5 I){s:Int}(hs:1≤s∧s≤63)(h1:ZN s=true):Zu Tryz.prog 250 [.int .u64 s] I (.int .i64 (Vx s)):=by
 intro g H w hw
 refine qe Tryz.func250 Tryz.ntmps250 hw ?_
 obtain ⟨hd1,hd2⟩:=zuS hs h1
 have hcell:∀ loc,QY I loc 1 (0+(zlH s).toNat*1) (.int .u8 (zqV.getD (zlH s).toNat 0)):=fun loc=>by rw [show 0+(zlH s).toNat*1=(zlH s).toNat by omega];exact (hD _ (by omega)).any
 refine zR (zA (zN (Qk (zR ?_))))
 refine zM ?_
 refine zC (zN ?_)
 refine zI ?_ ?_<;>intro hc4
 ·
  have h:=hc4;simp at h;omega
 refine Qo (Qa (zR (zM ?_)))
 refine zM ?_
 refine zV (zj4 rfl) ?_
 refine zV (zrc rfl rfl) ?_
 refine zV (zhA rfl rfl rfl) ?_
 refine zV (zj1 rfl rfl (by decide) (rfl:min _ _=58)) ?_
 refine zV (Zv rfl rfl zsn (fun hg=>by exact hd1)) ?_
 refine zV (Qd rfl zyJ (fun hg=>by exact (hcell _))) ?_
 refine zV (Ky rfl zqk) ?_
 refine zA (zN (Qs ?_))
 first
 | exact zr rfl rfl (by rw [hd2])
theorem zzU {I:Qw}(hD:V5 I){s:Int}(hs:1≤s∧s≤63)(h1:ZN s=true):Zu Tryz.prog 234 [.int .u64 s] I (.int .i64 (Vx s)):=by
 intro g H w hw
 refine qe Tryz.func234 Tryz.ntmps234 hw ?_
 refine zR (zA (zN (Qk ?_)))
 refine zI ?_ ?_<;>intro hcK
 ·
  cases hcK
 refine Qo (Qa (zR (zM ?_)))
 refine qc (vs:=[_]) rfl zq6 (zvW hD hs h1) ?_
 refine zA (zN (Qs ?_))
 exact zr rfl rfl (by rfl)
end
section
open Go Go.Kn Go.Proofs
theorem KX:CvT Tryz.prog 3 186 .u64:=⟨by kernel_rfl,by kernel_rfl⟩
theorem zrW:ElT Tryz.prog 275 171 1 8:=.of (by kernel_rfl)
theorem zeU:Fun Tryz.prog 233:=.of Tryz.func233 (by kernel_rfl) (by kernel_rfl)
theorem zrB:Fun Tryz.prog 234:=.of Tryz.func234 (by kernel_rfl) (by kernel_rfl)
theorem zr4:Fun Tryz.prog 235:=.of Tryz.func235 (by kernel_rfl) (by kernel_rfl)
theorem zee:Fun Tryz.prog 236:=.of Tryz.func236 (by kernel_rfl) (by kernel_rfl)
theorem ZQ:Jr (α:=Int) Tryz.prog 3 (.int .i64):=ztQ (by kernel_rfl)
theorem Vl:MpT Tryz.prog 171 3 3 (.int .i64 0):=⟨by kernel_rfl,.of (by kernel_rfl)⟩
theorem zcI:ScT Tryz.prog 171:=.of (by kernel_rfl)
theorem KB:ScT Tryz.prog 22:=.of (by kernel_rfl)
theorem zef:ScT Tryz.prog 274:=.of (by kernel_rfl)
theorem zle:SlT Tryz.prog 275 171 1:=.of (by kernel_rfl)
theorem zyj {I:Qw}(hD:V5 I){s:Int}(hs:1≤s∧s≤63)(h1:ZN s=true):Zu Tryz.prog 234 [.int .u64 (IntKind.u64.wrap s)] I (.int .i64 (Vx s)):=by
 rw [zwJ (by omega)];exact zzU hD hs h1
theorem znZ {I:Qw}{av:Option Addr}{n c m:Nat}{xs:List Int}(hS:Sl I 1 QP av n c xs)(hn:n≤100000)(hc:Y8 m xs=0){s:Int}(hin:s∈xs)(h1:ZN s=false):Zu Tryz.prog 153 [.slice av n c,.int .i64 s] I (.tuple #[.int .i64 (Qx xs s),.int .i64 (s-Qx xs s),.bool true]):=by
 have h:=zei hS hn s ((Zy hc).2.2.2 s hin)
 obtain ⟨e1,e2,e3⟩:=zfP hc hin h1
 rw [e1,e2,e3] at h;exact h
theorem zch {I:Qw}{av:Option Addr}{n c:Nat}{xs:List Int}{v:Int}(e:ZP xs=v)(hS:Sl I 1 QP av n c xs)(hn:n≤100000)(h0:0<n):Zu Tryz.prog 236 [.slice av n c] I (.int .i64 v):=by
 rw [←e];exact zp7 hS hn h0
theorem zmV {I:Qw}{brow bloc bcst bcla bbel rm:Nat}{av bv:Option Addr}{n c n2 c2:Nat}{xs:List Int}{rows:List (List Int)}{l:Nat}(hE:PrE I 233 brow bloc bcst bcla bbel rm av bv n c n2 c2 xs rows l)(hn:n≤100000)(hn2:n2≤100000)(hl:∀ r∈rows,l<r.length)(hc:Y8 rows.length xs=0)(f:Nat)(s:Int)(hok:OkS rows.length xs s)(ih:∀ (I':Qw),HLe I I'→∀ (s':Int),OkS rows.length xs s'→s'<s→Z4 Tryz.prog 233 ([.int .i64 s']++[Ze brow,Ze bloc,Ze bcst,Ze bcla,Ze bbel]) I' [] (zxW (QF rows l) (QO rows xs l f s') (8*(s'-1)))):Z4 Tryz.prog 233 [.int .i64 s,Ze brow,Ze bloc,Ze bcst,Ze bcla,Ze bbel] I [] (zxW (QF rows l) (QO rows xs l (f+1) s) (8*(s-1))):=by
 intro g H w hw
 refine qe Tryz.func233 Tryz.ntmps233 hw ?_
 have hIc:=zAl I
 obtain ⟨hs,hV⟩:=hE.hV
 have hH:=hV.1
 have hlV:=hV.len
 have hal:=(Zy hc).1
 have hal6:=(Zy hc).2.1
 have hs63:=zbJ hc hok
 have hsl:=zbo (rows:=rows) (l:=l)
 refine zR (zA ?_)
 refine zN (zR ?_)
 refine ZU rfl rfl (fun r_20=>?_)
 refine zA (zN (Qk (zR ?_)))
 refine zM ?_
 refine qc (vs:=[_]) rfl zh4 (zgO _ _) ?_
 refine zN ?_
 refine zI ?_ ?_<;>intro hc22
 ·
  have hsing:ZN s=true:=hc22
  have hwn:=znk (n:=rows.length) (by omega) hs63 hsing hok.2.1
  obtain ⟨x,v,hx,hv,hQ⟩:=hV.at (show Vx s<n2 by omega)
  have hlv:=hl v (List.mem_of_getElem? hv)
  have hu:=QX (d:=0) rfl hlv
  have hvn:=hQ.len
  have hz:(JO s (IntKind.i64.wrap (s-1))==0)=true:=by unfold ZN at hsing;rw [Bool.and_eq_true] at hsing;exact hsing.2
  refine Qk ?_
  refine Yq mixed (by kernel_rfl) ?_
  refine zq (Qd rfl KB (fun hg=>by exact hE.row.any)) ?_
  refine zq (Qh rfl) ?_
  refine zq (Ky rfl KX) ?_
  refine Vs (cap:=[]) (vs:=[_]) rfl rfl zrB (zyj hE.deb hs63 hsing) rfl rfl ?_
  refine zq (zX Q0 hH) ?_
  refine zq (Qd rfl QJ (fun hg=>by exact zAe hH hx rfl)) ?_
  refine zq (Qd rfl Qr (fun hg=>by exact hE.loc.any)) ?_
  refine zq (zX Qt hQ) ?_
  refine zq (Qd rfl Qr (fun hg=>by exact zAe hQ hu rfl)) ?_
  refine zq (ZM rfl) ?_
  refine Yp ?_
  refine Qa (Qk (zR ?_))
  refine zV (Qd rfl zcI (fun hg=>by exact hE.cst.any)) ?_
  refine JY (ek:=eiv) (ev:=eiv) (m:=(stM rows l)) rfl Vl rfl rfl (.inl hE.mp) (fun b_33=>?_)
  refine zN (Ql ?_)
  refine zU [(8,_),(9,_),(33,_)] (fun T L0 mz E I' loc'=>∃ (seen:List Nat) (m:List (Int×Int)),mz=(stM rows l).length-seen.length∧E=T∧I=I'∧[(b_33,YV rm (stM rows l).length seen),(r_20,Z0 eiv eiv m)]=loc'∧UR m (Xu rows l (v.getD l 0) seen)∧seen.Nodup∧∀ i∈seen,i<(stM rows l).length) ?_ (h:=⟨[],[],rfl,rfl,rfl,rfl,zkI,.nil,fun i h=>by cases h⟩)
  rintro mz E I' loc' ⟨seen,m,rfl,rfl,rfl,rfl,hm,hnd,hlt⟩
  refine zR ?_
  refine JS (ek:=eiv) (ev:=eiv) (m:=(stM rows l)) (fun s'=>[(b_33,YV rm (stM rows l).length s'),(r_20,Z0 eiv eiv m)]) rfl (fun s'=>.here) rfl rfl rfl rfl rfl (.inl hE.mp) (by simp) ?_
  intro t tv s' hno hyes
  refine zN (Qk ?_)
  refine zI ?_ ?_<;>intro hc35
  ·
   obtain ⟨i,q,hq,hns,rfl⟩:=hyes hc35
   refine Qo (Qa (Ql (zR ?_)))
   refine zV (JW (ek:=eiv) (ev:=eiv) (m:=(stM rows l)) (p:=q) (seen:=seen) (i:=i) rfl (.inl hE.mp) (.inr (by simp)) hq) ?_
   refine zE ?_
   refine zA ?_
   refine zN (zR ?_)
   refine zM ?_
   refine zM ?_
   refine zC ?_
   refine zM ?_
   refine QV 3 rfl rfl rfl ?_
   refine zJ (Qh rfl) ?_
   refine zJ (QI rfl rfl rfl) ?_
   refine Zs rfl rfl rfl rfl rfl ?_
   refine zN ?_
   refine zI ?_ ?_<;>intro hc44
   ·
    refine Qf (zM ?_)
    refine zM ?_
    refine Zd (m:=m) (ek:=eiv) (ev:=eiv) (a:=q.1) 0 Vl ZQ rfl rfl rfl rfl (by repeat (first | exact Upd.here | apply Upd.there | apply QM)) ?_
    refine Qc (Qg ?_)
    have hs9:=Kd hnd hlt hns (List.getElem?_eq_some_iff.1 hq).1
    first
    | exact zm (h:=⟨(stM rows l).length-(seen++[i]).length,by rw [List.length_append,List.length_singleton];have:=hs9.2.2;rw [List.length_append,List.length_singleton] at this;omega,seen++[i],YE m q.1 0,rfl,rfl,rfl,rfl,zki hm hq (zbT hc44),hs9.1,hs9.2.1⟩)
   refine Qo (Qg ?_)
   have hs9:=Kd hnd hlt hns (List.getElem?_eq_some_iff.1 hq).1
   first
   | exact zm (h:=⟨(stM rows l).length-(seen++[i]).length,by rw [List.length_append,List.length_singleton];have:=hs9.2.2;rw [List.length_append,List.length_singleton] at this;omega,seen++[i],m,rfl,rfl,rfl,rfl,zml hm hq (zjf hc44).2,hs9.1,hs9.2.1⟩)
  obtain ⟨rfl,hall⟩:=hno hc35
  refine QH (Qe (Qe (Qj (Qa (zR (zM ?_))))))
  refine zA (zN (Qs (Qb ?_)))
  first
  | exact Zq rfl rfl (fun w hw=>by obtain ⟨I9,h91,h92,h93⟩:=hw.freezeAll;exact ⟨_,I9,[],rfl,hIc.trans h91,h92,rfl,r_20,m,rfl,h93 _ _ (by simp),by rw [Ki hz];exact zmt (by omega) hv hm hnd hlt hall⟩)
 have hns0:ZN s=false:=hc22
 obtain ⟨hin,ok1,ok2,hp1,hp2,_,_⟩:=YT hc hok hns0
 have hz:(JO s (IntKind.i64.wrap (s-1))==0)=false:=by unfold ZN at hns0;rw [decide_eq_true (show s>0 by omega),Bool.true_and] at hns0;exact hns0
 refine Qo (Qa (zR ?_))
 refine zV (Qd rfl QJ (fun hg=>by exact hE.cla.any)) ?_
 refine zM ?_
 refine qc (vs:=[_,_]) rfl ze2 (znZ hE.hS hn hc hin hns0) ?_
 refine zM ?_
 refine zE ?_
 refine zE ?_
 refine zE ?_
 refine zA ?_
 refine zA ?_
 refine zA (zN (Qk (Qk ?_)))
 have hD:=zAl I
 refine K5 mixed ?_
 refine zT 0 rfl (Qd rfl zef (fun hg=>by exact hE.bel.any)) hD ?_
 refine zT 1 rfl (Qh rfl) hD ?_
 refine zT 3 rfl (Qd rfl zef (fun hg=>by exact hE.bel.any)) hD ?_
 refine zT 4 rfl (Qh rfl) hD ?_
 refine zT 8 rfl (Qh rfl) hD ?_
 refine qd 2 rfl ?_
 refine QA (cap:=[Ze brow,Ze bloc,Ze bcst,Ze bcla,Ze bbel]) (vs:=[_]) rfl rfl zeU (by exact .nil) (ih _ hIc _ ok1 hp2) rfl rfl ?_
 rintro vv2 I2 L2 hI2 ⟨rfl,ra,ma,rfl,hMa,hRa⟩
 have hE:=hE.mono hI2;have hIc:=hIc.trans hI2;have hD:=hD.trans hI2
 refine Qc ?_
 refine zD hD ?_
 refine qd 5 rfl ?_
 refine QA (cap:=[Ze brow,Ze bloc,Ze bcst,Ze bcla,Ze bbel]) (vs:=[_]) rfl rfl zeU (by exact .nil) (ih _ hIc _ ok2 (by omega)) rfl rfl ?_
 rintro vv3 I3 L3 hI3 ⟨rfl,rb,mb,rfl,hMb,hRb⟩
 have hE:=hE.mono hI3;have hMa:=hMa.mono hI3;have hIc:=hIc.trans hI3;have hD:=hD.trans hI3
 refine Qc ?_
 refine zD hD ?_
 refine qd 6 rfl ?_
 refine Qp (ps:=[(0,_),(1,_)]) (m:=[[.map (some ra)],[.map (some rb)]]) zrW rfl (.cons rfl (.cons rfl (.nil))) rfl (by simp) (by decide) (by decide) rfl rfl (fun b_61=>?_)
 refine Qc ?_
 refine zD hD ?_
 refine zT 7 rfl (ZB rfl zle) hD ?_
 refine QK (by kernel_rfl) ?_
 refine QW ?_
 refine Qa (Ql ?_)
 refine zU [(3,_),(8,_),(61,_),(62,_)] (fun T L0 mz E I' loc'=>∃ (j:Nat) (m:List (Int×Int)),mz=2-j∧E=(63,.int .i64 j)::T∧HLe I3 I'∧[(b_61,.cells (([[Value.map (some ra)],[Value.map (some rb)]]:List (List Value)).flatten).toArray 171 (0,0)),(r_20,Z0 eiv eiv m)]=loc'∧j≤2∧UR m (gF (QF rows l) (QO rows xs l f (Qx xs s)) (QO rows xs l f (s-Qx xs s)) j)) ?_ (h:=⟨0,[],rfl,rfl,zAl _,rfl,Nat.zero_le _,zz6⟩)
 rintro mz E J4 loc' ⟨j,m,rfl,rfl,hJ,rfl,hj,hm⟩
 have hE:=hE.mono hJ;have hMa:=hMa.mono hJ;have hMb:=hMb.mono hJ;have hIc:=hIc.trans hJ
 have hB2:=hJ
 refine zR (zC (zN (Qk ?_)))
 refine zI ?_ ?_<;>intro hc64
 ·
  have hlt_j:j<2:=by have h:=hc64;simp at h;omega
  obtain ⟨rj,mj,bj,hrj,hMj,hRj,hbj⟩:∃ rj mj bj,(if j=0 then ra else rb)=rj∧ImO J4 rj (Z0 eiv eiv mj)∧zdX (QF rows l) (if j=0 then (QO rows xs l f (Qx xs s)) else (QO rows xs l f (s-Qx xs s))) bj mj∧bj≤1000:=by
   rcases (show j=0∨j=1 by omega) with e | e
   ·
    subst e;exact ⟨ra,ma,8*(Qx xs s-1),rfl,hMa,hRa,by omega⟩
   subst e;exact ⟨rb,mb,8*(s-Qx xs s-1),rfl,hMb,hRb,by omega⟩
  have hmjl:=hRj.small
  refine Qo (Qa (Qk (Ql (zR ?_))))
  refine zV (Q6 rfl rfl zle (fun hg=>by omega)) ?_
  refine zV (Qd rfl zcI (fun hg=>by exact zlR hrj hlt_j)) ?_
  refine zA ?_
  refine zN (zR ?_)
  refine zV (Qd rfl zcI (fun hg=>by exact hE.cst.any)) ?_
  refine JY (ek:=eiv) (ev:=eiv) (m:=(stM rows l)) rfl Vl rfl rfl (.inl hE.mp) (fun b_68=>?_)
  refine zN (Ql ?_)
  refine zU [(3,_),(8,_),(15,_),(61,_),(62,_),(63,_),(68,_)] (fun T L0 mz E I' loc'=>∃ (seen:List Nat) (m2:List (Int×Int)),mz=(stM rows l).length-seen.length∧E=T∧HLe J4 I'∧[(b_68,YV rm (stM rows l).length seen),(b_61,.cells (([[Value.map (some ra)],[Value.map (some rb)]]:List (List Value)).flatten).toArray 171 (0,0)),(r_20,Z0 eiv eiv m2)]=loc'∧UR m2 (hF rows l (QO rows xs l f (Qx xs s)) (QO rows xs l f (s-Qx xs s)) j seen)∧seen.Nodup∧∀ i∈seen,i<(stM rows l).length) ?_ (h:=⟨[],m,rfl,rfl,zAl _,rfl,zAd hm,.nil,fun i h=>by cases h⟩)
  rintro mz E J5 loc' ⟨seen,m2,rfl,rfl,hJ,rfl,hm2,hnd4,hlt4⟩
  have hE:=hE.mono hJ;have hMj:=hMj.mono hJ;have hB2:=hB2.trans hJ
  have hB4:=hJ
  refine zR ?_
  refine JS (ek:=eiv) (ev:=eiv) (m:=(stM rows l)) (fun s'=>[(b_68,YV rm (stM rows l).length s'),(b_61,.cells (([[Value.map (some ra)],[Value.map (some rb)]]:List (List Value)).flatten).toArray 171 (0,0)),(r_20,Z0 eiv eiv m2)]) rfl (fun s'=>.here) rfl rfl rfl rfl rfl (.inl hE.mp) (by simp) ?_
  intro t tv s' hno hyes
  refine zN (Qk ?_)
  refine zI ?_ ?_<;>intro hc70
  ·
   obtain ⟨i,q,hq,hns,rfl⟩:=hyes hc70
   have hlk:=zzj hm2 hq hns
   have htot:=zvv hRa hRb (by omega) (by omega) j q.1
   refine Qo (Qa (Ql (zR ?_)))
   refine zV (JW (ek:=eiv) (ev:=eiv) (m:=(stM rows l)) (p:=q) (seen:=seen) (i:=i) rfl (.inl hE.mp) (.inr (by simp)) hq) ?_
   refine zE ?_
   refine zA ?_
   refine zN (zR ?_)
   refine zA (zN (Qk (zR ?_)))
   refine zM ?_
   refine JY (ek:=eiv) (ev:=eiv) (m:=mj) rfl Vl rfl rfl (.inl hMj) (fun b_74=>?_)
   refine zN (Ql ?_)
   refine zU [(3,_),(8,_),(15,_),(16,_),(61,_),(62,_),(63,_),(68,_),(74,_)] (fun T L0 mz E I' loc'=>∃ (seen6:List Nat) (v6:Value) (q6:Nat) (L:Go.Kn.Loc),mz=mj.length-seen6.length∧E=(17,v6)::T∧J5=I'∧L++[(b_74,YV rj mj.length seen6),(b_68,YV rm (stM rows l).length (seen++[i])),(b_61,.cells (([[Value.map (some ra)],[Value.map (some rb)]]:List (List Value)).flatten).toArray 171 (0,0)),(r_20,Z0 eiv eiv m2)]=loc'∧OwnS 3 1 v6 q6 (((zjK mj seen6).map fun p=>p.2+ZZ q.1 p.1).flatMap QP) L∧q6=seen6.length∧seen6.Nodup∧∀ i∈seen6,i<mj.length) ?_ (h:=⟨[],_,0,[],rfl,rfl,rfl,rfl,OwnS.nil,rfl,.nil,fun i h=>by cases h⟩)
   rintro mz E I' loc' ⟨seen6,v6,q6,L,rfl,rfl,rfl,rfl,hO6,hq6,hnd6,hlt6⟩
   have hsl6:=JF hnd6 hlt6
   refine zR ?_
   refine JS (ek:=eiv) (ev:=eiv) (m:=mj) (fun s'=>L++[(b_74,YV rj mj.length s'),(b_68,YV rm (stM rows l).length (seen++[i])),(b_61,.cells (([[Value.map (some ra)],[Value.map (some rb)]]:List (List Value)).flatten).toArray 171 (0,0)),(r_20,Z0 eiv eiv m2)]) rfl (fun s'=>QM .here) rfl rfl rfl rfl rfl (.inl hMj) (by simp) ?_
   intro t tv s' hno hyes
   refine zN (Qk ?_)
   refine zI ?_ ?_<;>intro hc76
   ·
    obtain ⟨i6,p6,hp6,hns6,rfl⟩:=hyes hc76
    have hb6:=(Ug hRj hbj (.refl _) q.1).2.2.2 p6 (List.mem_of_getElem? hp6)
    have hst6:=YW q.1 p6.1
    refine Qo (Qa (Ql (zR ?_)))
    refine zV (JW (ek:=eiv) (ev:=eiv) (m:=mj) (p:=p6) (seen:=seen6) (i:=i6) rfl (.inl hMj) (.inr (by simp)) hp6) ?_
    refine zE ?_
    refine zE ?_
    refine zA ?_
    refine zA (zN (Qf ?_))
    refine zM ?_
    refine zM ?_
    refine zM ?_
    refine zM ?_
    refine qc (vs:=[_,_]) rfl zr4 (zwZ _ _ _) ?_
    refine zB ?_
    refine Qp (ps:=[(0,_)]) (m:=[QP (p6.2+ZZ q.1 p6.1)]) Za rfl (.cons rfl (.nil)) rfl (by simp [Qu]) (by decide) (by decide) rfl rfl (fun b_86=>?_)
    refine QU (v:=_) (ys:=[(p6.2+ZZ q.1 p6.1)].flatMap QP) (L:=L) rfl rfl Za hO6 (by repeat (first | exact .cons .here .nil | exact QD | exact Qy | apply QC | apply QB)) ⟨rfl,fun _=>rfl,zAj⟩ (V0 _) (by omega) rfl rfl ?_
    intro v9 L9 hO9 _;rw [←List.flatMap_append] at hO9
    refine zA (Qc (Qg ?_))
    have hs9:=Kd hnd6 hlt6 hns6 (List.getElem?_eq_some_iff.1 hp6).1
    exact zm (h:=⟨mj.length-(seen6++[i6]).length,by rw [List.length_append,List.length_singleton];have:=hs9.2.2;rw [List.length_append,List.length_singleton] at this;omega,seen6++[i6],v9,q6+1,L9,rfl,rfl,rfl,rfl,by rw [zcv hp6,List.map_append];exact hO9,by rw [List.length_append,List.length_singleton];omega,hs9.1,hs9.2.1⟩)
   obtain ⟨rfl,hall6⟩:=hno hc76
   have hlen6:=(XX hnd6 hlt6 hall6).length_eq
   rw [List.length_range] at hlen6
   have hne6:=hRj.ne
   have hbe:=Ug hRj hbj (zem hnd6 hlt6 hall6) q.1
   refine QH (Qe (Qe (Qj (Qa ?_))))
   refine Vn hO6 Qu (by decide) Qy (fun I7 hI7 af7 cf7 ef7 hLst=>?_)
   subst ef7
   have hB4:=hB4.trans hI7
   have hD:=zAl I7
   refine JH ?_
   refine Z7 I7 [] mixed ?_
   refine zT 0 rfl (Qh rfl) hD ?_
   refine zT 1 rfl (Qh rfl) hD ?_
   refine zT 3 rfl (Qh rfl) hD ?_
   refine Zw 2 4 rfl rfl (by kernel_rfl) ?_ ?_
   ·
    refine zV (za4 (m:=m2) (a:=q.1) Vl ZQ rfl rfl (fun _=>(by exact Mem.m3))) ?_
    refine Qc ?_
    refine zD hD ?_
    refine qd 4 rfl ?_
    refine qc (vs:=[_]) rfl zee (zch hbe.1 hLst (by omega) (by omega)) ?_
    refine Qc ?_
    refine zD hD ?_
    refine zT 5 rfl (ZA rfl rfl rfl (fun hg=>by omega)) hD ?_
    refine qd 6 rfl ?_
    refine Zd (m:=m2) (ek:=eiv) (ev:=eiv) (a:=q.1) ((ZH m2 q.1).getD 0+Yc (QF rows l) (if j=0 then (QO rows xs l f (Qx xs s)) else (QO rows xs l f (s-Qx xs s))) q.1) Vl ZQ rfl rfl rfl rfl (by repeat (first | exact Upd.here | apply Upd.there | apply QM)) ?_
    refine Qc ?_
    refine zD hD ?_
    refine QK (by kernel_rfl) ?_
    refine QW ?_
    refine Qg ?_
    have hs9:=Kd hnd4 hlt4 hns (List.getElem?_eq_some_iff.1 hq).1
    rw [hlk,zfn hlt_j]
    exact zm (h:=⟨(stM rows l).length-(seen++[i]).length,by rw [List.length_append,List.length_singleton];have:=hs9.2.2;rw [List.length_append,List.length_singleton] at this;omega,seen++[i],YE m2 q.1 (zfW (QF rows l) (QO rows xs l f (Qx xs s)) (QO rows xs l f (s-Qx xs s)) (j+1) q.1),rfl,rfl,hB4,rfl,zo5 hm2 hq,hs9.1,hs9.2.1⟩)
   refine qc (vs:=[_]) rfl zee (zch hbe.1 hLst (by omega) (by omega)) ?_
   refine Qc ?_
   refine zD hD ?_
   refine qd 2 rfl ?_
   refine zV (za4 (m:=m2) (a:=q.1) Vl ZQ rfl rfl (fun _=>(by exact Mem.m3))) ?_
   refine Qc ?_
   refine zD hD ?_
   refine zT 5 rfl (ZA rfl rfl rfl (fun hg=>by omega)) hD ?_
   refine qd 6 rfl ?_
   refine Zd (m:=m2) (ek:=eiv) (ev:=eiv) (a:=q.1) ((ZH m2 q.1).getD 0+Yc (QF rows l) (if j=0 then (QO rows xs l f (Qx xs s)) else (QO rows xs l f (s-Qx xs s))) q.1) Vl ZQ rfl rfl rfl rfl (by repeat (first | exact Upd.here | apply Upd.there | apply QM)) ?_
   refine Qc ?_
   refine zD hD ?_
   refine QK (by kernel_rfl) ?_
   refine QW ?_
   refine Qg ?_
   have hs9:=Kd hnd4 hlt4 hns (List.getElem?_eq_some_iff.1 hq).1
   rw [hlk,zfn hlt_j]
   exact zm (h:=⟨(stM rows l).length-(seen++[i]).length,by rw [List.length_append,List.length_singleton];have:=hs9.2.2;rw [List.length_append,List.length_singleton] at this;omega,seen++[i],YE m2 q.1 (zfW (QF rows l) (QO rows xs l f (Qx xs s)) (QO rows xs l f (s-Qx xs s)) (j+1) q.1),rfl,rfl,hB4,rfl,zo5 hm2 hq,hs9.1,hs9.2.1⟩)
  obtain ⟨rfl,hall⟩:=hno hc70
  refine QH (Qe (Qe (Qj (Qg (Qa (Qf (zB ?_)))))))
  refine zM (Qc ?_)
  exact zm (h:=⟨2-(j+1),by omega,j+1,m2,rfl,rfl,hB2,rfl,by omega,zw9 hm2 hnd4 hlt4 hall⟩)
 have hge_j:2≤j:=by have h:=hc64;simp at h;omega
 have hj2:j=2:=by omega
 subst hj2
 refine QH (Qe (Qe (Qj (Qa (zR (zM ?_))))))
 refine zA (zN (Qs ?_))
 first
 | exact Zq rfl rfl (fun w hw=>by obtain ⟨I9,h91,h92,h93⟩:=hw.freezeAll;exact ⟨_,I9,[],rfl,hIc.trans h91,h92,rfl,r_20,m,rfl,h93 _ _ (by simp),by rw [KP hz];exact zqY (List.ne_nil_of_length_pos Uq) hRa hRb (by omega) (by omega) (by omega) hm⟩)
end
section
open Go Go.Kn Go.Proofs
theorem ztV:Fun Tryz.prog 199:=.of Tryz.func199 (by kernel_rfl) (by kernel_rfl)
theorem zsl:SzT Tryz.prog 171 1:=.of (by kernel_rfl)
theorem zs4:SzT Tryz.prog 274 1:=.of (by kernel_rfl)
theorem zwM:Yz Tryz.prog 171 (.map none):=.of (by kernel_rfl)
theorem zxz:Yz Tryz.prog 274 .nilFunc:=.of (by kernel_rfl)
theorem zc4 {brow bloc bcst bcla bbel rm:Nat}{av bv:Option Addr}{n c n2 c2:Nat}{xs:List Int}{rows:List (List Int)}{l:Nat}(hn:n≤100000)(hn2:n2≤100000)(hl:∀ r∈rows,l<r.length)(hc:Y8 rows.length xs=0):∀ (f:Nat) (I:Qw),PrE I 233 brow bloc bcst bcla bbel rm av bv n c n2 c2 xs rows l→∀ (s:Int),OkS rows.length xs s→s.toNat≤f→Z4 Tryz.prog 233 ([.int .i64 s]++[Ze brow,Ze bloc,Ze bcst,Ze bcla,Ze bbel]) I [] (zxW (QF rows l) (QO rows xs l f s) (8*(s-1)))
 | 0,_,_,s,hok,hf=>by have:=hok.1;omega
 | f+1,I,hE,s,hok,hf=>zmV hE hn hn2 hl hc f s hok fun I' hI s' hok' hlt=>zc4 hn hn2 hl hc f I' (hE.mono hI) s' hok' (by have:=hok'.1;have:=hok.1;omega)
theorem zlv {I:Qw}{brow bloc bcst bcla bbel rm:Nat}{av bv:Option Addr}{n c n2 c2:Nat}{xs:List Int}{rows:List (List Int)}{l:Nat}(hE:PrE I 233 brow bloc bcst bcla bbel rm av bv n c n2 c2 xs rows l)(hn:n≤100000)(hn2:n2≤100000)(hl:∀ r∈rows,l<r.length)(hc:Y8 rows.length xs=0):Z4 Tryz.prog 233 ([.int .i64 (IntKind.i64.wrap (1*2^(min (n2:Int).toNat IntKind.i64.bits))-1)]++[Ze brow,Ze bloc,Ze bcst,Ze bcla,Ze bbel]) I [] (zxW (QF rows l) (QO rows xs l 64 (ZK rows.length)) (8*(ZK rows.length-1))):=by
 have hlV:=hE.hV.len
 subst hlV
 exact zc4 hn hn2 hl hc 64 I hE (ZK rows.length) (Xi hc) (by have:=(JV (n:=(rows.length:Int)) ⟨(Zy hc).1,(Zy hc).2.1⟩).2;omega)
theorem ztT {I:Qw}{av:Option Addr}{n c:Nat}{xs:List Int}(hS:Sl I 1 QP av n c xs)(hn:n≤100000){bv:Option Addr}{n2 c2:Nat}{rows:List (List Int)}(hV:SlN I bv n2 c2 rows)(hn2:n2≤100000){l:Nat}(hDb:V5 I)(hl:∀ r∈rows,l<r.length)(hl64:l≤64)(hc:Y8 rows.length xs=0):Zu Tryz.prog 199 [.slice bv n2 c2,.slice av n c,.int .i64 l] I (.int .i64 (ZP (QO rows xs l 64 (ZK rows.length)))):=by
 intro g H w hw
 refine qe Tryz.func199 Tryz.ntmps199 hw ?_
 have hIc:=zAl I
 obtain ⟨hs,hV⟩:=hV
 have hH:=hV.1
 have hlV:=hV.len
 have hal:=(Zy hc).1
 have hal6:=(Zy hc).2.1
 have hsl:=zbo (rows:=rows) (l:=l)
 have hsh:=zaa (n:=(n2:Int)) ⟨by omega,by omega⟩
 refine zR ?_
 refine Q9 rfl rfl rfl (fun b_3=>?_)
 refine Q9 rfl rfl rfl (fun b_4=>?_)
 refine Q9 rfl rfl rfl (fun b_5=>?_)
 refine zA ?_
 refine zN (zR ?_)
 refine ZU rfl rfl (fun r_14=>?_)
 refine UT (m:=[]) (ek:=eiv) (ev:=eiv) (a:=0) 0 Vl ZQ rfl rfl rfl rfl (by repeat (first | exact Upd.here | apply Upd.there | apply QM)) ?_
 refine zM ?_
 refine Qv zwM rfl rfl (fun b_7=>?_)
 refine zS zsl ?_
 refine zN (Qk (zR ?_))
 refine zL KB ?_
 refine zQ Q0 ?_
 refine zM (zN (Ql ?_))
 refine zU [(3,_),(4,_),(5,_),(7,_),(16,_),(17,_)] (fun T L0 mz E I' loc'=>∃ (k:Nat),mz=n2-k∧E=(18,.int .i64 k)::T∧I=I'∧[(b_7,.cells #[.map (some r_14)] 171 (0,0)),(r_14,Z0 eiv eiv (stM (rows.take k) l)),(b_5,.cells #[.int .i64 l] 3 (0,0)),(b_4,.cells #[.slice av n c] 23 (0,0)),(b_3,.cells #[.slice bv n2 c2] 22 (0,0))]=loc'∧k≤n2) ?_ (h:=⟨0,rfl,rfl,rfl,rfl,Nat.zero_le _⟩)
 rintro mz E I' loc' ⟨k,rfl,rfl,rfl,rfl,hk⟩
 refine zR (zC (zN (Qk ?_)))
 refine zI ?_ ?_<;>intro hc19
 ·
  have hlt_k:k<n2:=by have h:=hc19;simp at h;omega
  obtain ⟨x,v,hx,hv,hQ⟩:=hV.at hlt_k
  have hlv:=hl v (List.mem_of_getElem? hv)
  have hu:=QX (d:=0) rfl hlv
  have hvn:=hQ.len
  refine Qo (Qa (Qk (Ql (zR ?_))))
  refine zV (zX Q0 hH) ?_
  refine zV (Qd rfl QJ (fun hg=>by exact zAe hH hx rfl)) ?_
  refine zA ?_
  refine zN (zR ?_)
  refine zM ?_
  refine zL Qr ?_
  refine zV (zX Qt hQ) ?_
  refine zV (Qd rfl Qr (fun hg=>by exact zAe hQ hu rfl)) ?_
  refine zC (zN ?_)
  refine zI ?_ ?_<;>intro hc26
  ·
   have hne:v.getD l 0≠8589934592:=by simpa using hc26
   have hD:=zAl I
   refine JH ?_
   refine Z7 I [(b_7,.cells #[.map (some r_14)] 171 (0,0)),(b_5,.cells #[.int .i64 l] 3 (0,0)),(b_4,.cells #[.slice av n c] 23 (0,0)),(b_3,.cells #[.slice bv n2 c2] 22 (0,0))] mixed ?_
   refine zT 0 rfl (Qd rfl zcI (fun hg=>by exact QY.h0 rfl)) hD ?_
   refine zT 1 rfl (Qh rfl) hD ?_
   refine zT 2 rfl (Qd rfl Qr (fun hg=>by exact QY.h1 rfl)) hD ?_
   refine zT 3 rfl (zX Qt hQ) hD ?_
   refine zT 4 rfl (Qd rfl Qr (fun hg=>by exact zAe hQ hu rfl)) hD ?_
   refine qd 5 rfl ?_
   refine Zd (m:=stM (rows.take k) l) (ek:=eiv) (ev:=eiv) (a:=v.getD l 0) 0 Vl ZQ rfl rfl rfl rfl (by repeat (first | exact Upd.here | apply Upd.there | apply QM)) ?_
   refine Qc ?_
   refine zD hD ?_
   refine QK (by kernel_rfl) ?_
   refine QW ?_
   rw [ztj hv hne]
   refine Qg (Qa (Qf (zB ?_)))
   refine zM (Qc ?_)
   exact zm (h:=⟨n2-(k+1),by omega,k+1,rfl,rfl,rfl,rfl,by omega⟩)
  have heq:v.getD l 0=8589934592:=by simpa using hc26
  rw [znh hv heq]
  refine Qo (Qg (Qa (Qf (zB ?_))))
  refine zM (Qc ?_)
  exact zm (h:=⟨n2-(k+1),by omega,k+1,rfl,rfl,rfl,rfl,by omega⟩)
 have hge_k:n2≤k:=by have h:=hc19;simp at h;omega
 rw [List.take_of_length_le (show rows.length≤k by omega)]
 refine QH (Qe (Qe (Qj (Qa (zR ?_)))))
 refine Qv zxz rfl rfl (fun b_10=>?_)
 refine zN (zR ?_)
 refine zV (Zf (us:=[]) (vs:=[_,_,_,_,_]) rfl rfl) ?_
 refine zS zs4 ?_
 refine zN (zR ?_)
 refine zA (zN (Qk (Qk ?_)))
 refine VN (fun I2 hI2 hall=>?_)
 have hS:=hS.mono hI2;have hV:=hV.mono hI2;have hDb:=hDb.mono hI2;have hIc:=hIc.trans hI2
 have hE:PrE I2 233 b_3 b_5 b_7 b_4 b_10 r_14 av bv n c n2 c2 xs rows l:=⟨.imm (hall _ _ (by repeat (first | exact List.mem_cons_self .. | apply List.mem_cons_of_mem))) rfl,.imm (hall _ _ (by repeat (first | exact List.mem_cons_self .. | apply List.mem_cons_of_mem))) rfl,.imm (hall _ _ (by repeat (first | exact List.mem_cons_self .. | apply List.mem_cons_of_mem))) rfl,.imm (hall _ _ (by repeat (first | exact List.mem_cons_self .. | apply List.mem_cons_of_mem))) rfl,.imm (hall _ _ (by repeat (first | exact List.mem_cons_self .. | apply List.mem_cons_of_mem))) rfl,hall _ _ (by repeat (first | exact List.mem_cons_self .. | apply List.mem_cons_of_mem)),hDb,hS,⟨hs,hV⟩⟩
 have hD:=zAl I2
 refine K5 mixed ?_
 refine zT 0 rfl (Qd rfl zef (fun hg=>by exact hE.bel.any)) hD ?_
 refine zT 1 rfl (Qd rfl KB (fun hg=>by exact hE.row.any)) hD ?_
 refine zT 2 rfl (ZB rfl Q0) hD ?_
 refine zT 3 rfl (K6 rfl rfl (fun hg=>by omega)) hD ?_
 refine zT 4 rfl (ZA rfl rfl rfl (fun hg=>by omega)) hD ?_
 refine qd 5 rfl ?_
 refine QA (cap:=[Ze b_3,Ze b_5,Ze b_7,Ze b_4,Ze b_10]) (vs:=[_]) rfl rfl zeU (by exact .nil) (zlv hE hn hn2 hl hc) rfl rfl ?_
 rintro vv3 I3 L3 hI3 ⟨rfl,rm2,m,rfl,hM2,hR2⟩
 have hIc:=hIc.trans hI3;have hD:=hD.trans hI3
 have hml:=hR2.small
 have hmp:=hR2.ne
 refine Qc ?_
 refine zD hD ?_
 refine qd 6 rfl ?_
 refine JY (ek:=eiv) (ev:=eiv) (m:=m) rfl Vl rfl rfl (.inl hM2) (fun b_40=>?_)
 refine Qc ?_
 refine zD hD ?_
 refine QK (by kernel_rfl) ?_
 refine QW ?_
 refine Qa (Ql ?_)
 refine zU [(40,_)] (fun T L0 mz E I' loc'=>∃ (seen:List Nat) (v6:Value) (q6:Nat) (L:Go.Kn.Loc),mz=m.length-seen.length∧E=(11,v6)::T∧I3=I'∧L++[(b_40,YV rm2 m.length seen)]=loc'∧OwnS 3 1 v6 q6 (((zjK m seen).map (·.2)).flatMap QP) L∧q6=seen.length∧seen.Nodup∧∀ i∈seen,i<m.length) ?_ (h:=⟨[],_,0,[],rfl,rfl,rfl,rfl,OwnS.nil,rfl,.nil,fun i h=>by cases h⟩)
 rintro mz E I' loc' ⟨seen,v6,q6,L,rfl,rfl,rfl,rfl,hO6,hq6,hnd,hlt⟩
 have hsl6:=JF hnd hlt
 refine zR ?_
 refine JS (ek:=eiv) (ev:=eiv) (m:=m) (fun s'=>L++[(b_40,YV rm2 m.length s')]) rfl (fun s'=>QM .here) rfl rfl rfl rfl rfl (.inl hM2) (by simp) ?_
 intro t tv s' hno hyes
 refine zN (Qk ?_)
 refine zI ?_ ?_<;>intro hc42
 ·
  obtain ⟨i,q,hq,hns,rfl⟩:=hyes hc42
  refine Qo (Qa (Ql (zR ?_)))
  refine zV (JW (ek:=eiv) (ev:=eiv) (m:=m) (p:=q) (seen:=seen) (i:=i) rfl (.inl hM2) (.inr (by simp)) hq) ?_
  refine zE ?_
  refine zA (zN (Qf ?_))
  refine zM ?_
  refine zM ?_
  refine Qp (ps:=[(0,_)]) (m:=[QP q.2]) Za rfl (.cons rfl (.nil)) rfl (by simp [Qu]) (by decide) (by decide) rfl rfl (fun b_47=>?_)
  refine QU (v:=_) (ys:=[q.2].flatMap QP) (L:=L) rfl rfl Za hO6 (by repeat (first | exact .cons .here .nil | exact QD | exact Qy | apply QC | apply QB)) ⟨rfl,fun _=>rfl,zAj⟩ (V0 _) (by omega) rfl rfl ?_
  intro v9 L9 hO9 _;rw [←List.flatMap_append] at hO9
  refine zA (Qc (Qg ?_))
  have hs9:=Kd hnd hlt hns (List.getElem?_eq_some_iff.1 hq).1
  exact zm (h:=⟨m.length-(seen++[i]).length,by rw [List.length_append,List.length_singleton];have:=hs9.2.2;rw [List.length_append,List.length_singleton] at this;omega,seen++[i],v9,q6+1,L9,rfl,rfl,rfl,rfl,by rw [zcv hq,List.map_append];exact hO9,by rw [List.length_append,List.length_singleton];omega,hs9.1,hs9.2.1⟩)
 obtain ⟨rfl,hall2⟩:=hno hc42
 have hlen6:=(XX hnd hlt hall2).length_eq
 rw [List.length_range] at hlen6
 refine QH (Qe (Qe (Qj (Qa (Qk ?_)))))
 refine Vn hO6 Qu (by decide) Qy (fun I5 hI5 af5 cf5 ef5 hLst=>?_)
 subst ef5
 have hIc:=hIc.trans hI5
 refine Qf (zM ?_)
 refine qc (vs:=[_]) rfl zee (zch (zkb hR2 (zem hnd hlt hall2)) hLst (by omega) (by omega)) ?_
 refine zA (zN (Qs ?_))
 exact zp hIc rfl rfl (by rfl)
theorem zxy {I:Qw}{av:Option Addr}{n c:Nat}{xs:List Int}(hS:Sl I 1 QP av n c xs)(hn:n≤100000){bv:Option Addr}{n2 c2:Nat}{rows:List (List Int)}(hV:SlN I bv n2 c2 rows)(hn2:n2≤100000)(hDb:V5 I)(hr:YX rows=0)(hc:Y8 rows.length xs=0):Zu Tryz.prog 152 [.slice bv n2 c2,.slice av n c] I (.int .i64 (zgW rows xs)):=by
 intro g H w hw
 refine qe Tryz.func152 Tryz.ntmps152 hw ?_
 obtain ⟨hs,hV⟩:=hV
 have hH:=hV.1
 have hlV:=hV.len
 obtain ⟨hr1,hr6,hr64,hrr⟩:=JE hr
 obtain ⟨x0,v0,hx0,hv0,hQ0⟩:=hV.at (show 0<n2 by omega)
 have hw0:=hQ0.len
 have hg0:=QN (d:=([]:List Int)) hv0
 have hv64:v0.length≤64:=by rw [←hg0];exact hr64
 refine zR (zA (zN (Qk (zR ?_))))
 refine zM ?_
 refine zV (zX Q0 hH) ?_
 refine zV (Qd rfl QJ (fun hg=>by exact zAe (k:=0) hH hx0 rfl)) ?_
 refine zQ Qt ?_
 refine zM (zN (Ql ?_))
 refine zU [(0,_),(1,_),(9,_)] (fun T L0 mz E I' loc'=>∃ (k:Nat) (sm:Int),mz=v0.length-k∧E=(4,.int .i64 sm)::(10,.int .i64 k)::T∧I=I'∧[]=loc'∧k≤v0.length∧sm=zbg rows xs k∧0≤sm∧sm≤k*1099511627776) ?_ (h:=⟨0,_,rfl,rfl,rfl,rfl,Nat.zero_le _,rfl,Int.le_refl _,(show (0:Int)≤((0:Nat):Int)*1099511627776 by decide)⟩)
 rintro mz E I' loc' ⟨k,sm,rfl,rfl,rfl,rfl,hk,hsm,hs1,hs2⟩
 refine zR (zC (zN (Qk ?_)))
 refine zI ?_ ?_<;>intro hc11
 ·
  have hlt_k:k<v0.length:=by have h:=hc11;simp at h;omega
  refine Qo (Qa (Qk (Ql (zR (zM ?_)))))
  refine zA (zN (Qf ?_))
  refine zM ?_
  refine zM ?_
  refine zM ?_
  refine zM ?_
  refine qc (vs:=[_,_,_]) rfl ztV (ztT (l:=k) hS hn ⟨hs,hV⟩ hn2 hDb (fun r hm=>by rw [(hrr r hm).1,hg0];omega) (by omega) hc) ?_
  refine zV (ZA rfl rfl rfl (fun _=>by (have hmi:0≤ZP (QO rows xs k 64 (ZK rows.length))∧ZP (QO rows xs k 64 (ZK rows.length))≤1099511627776:=WS (cs:=(QO rows xs k 64 (ZK rows.length))) (Y9 _ _) (by rw [Yi];exact Uq) (QO rows xs k 64 (ZK rows.length)).length;omega))) ?_
  refine zA (Qc (Qg (Qa (Qf ?_))))
  refine zB ?_
  refine zM (Qc ?_)
  exact zm (h:=⟨v0.length-(k+1),by omega,k+1,_,rfl,rfl,rfl,rfl,by omega,by rw [zbq,hsm],by have hmi:0≤ZP (QO rows xs k 64 (ZK rows.length))∧ZP (QO rows xs k 64 (ZK rows.length))≤1099511627776:=WS (cs:=(QO rows xs k 64 (ZK rows.length))) (Y9 _ _) (by rw [Yi];exact Uq) (QO rows xs k 64 (ZK rows.length)).length;omega,by have hmi:0≤ZP (QO rows xs k 64 (ZK rows.length))∧ZP (QO rows xs k 64 (ZK rows.length))≤1099511627776:=WS (cs:=(QO rows xs k 64 (ZK rows.length))) (Y9 _ _) (by rw [Yi];exact Uq) (QO rows xs k 64 (ZK rows.length)).length;omega⟩)
 have hge_k:k=v0.length:=by have h:=hc11;simp at h;omega
 refine QH (Qe (Qe (Qj (Qa (zR (zM ?_))))))
 refine zA (zN (Qs ?_))
 first
 | exact zr rfl rfl (by rw [hsm,hge_k,←hg0];rfl)
end
end Go.Proofs.YtodakphagkommaaGreatDoor
namespace Go.Kn
section
open Go
section
variable {g:World} {I I' H:Qw} {loc loc' L K A B:Loc} {w w':World}
theorem St.permL (h:St g I H loc w)(hp:loc'.Perm loc):St g I H loc' w:=h.perm (fun _p=>hp.mem_iff) ((hp.map (·.1)).nodup_iff.2 h.nodup)
end
section
variable {α:Type} {C:Cx} {Q:Exit→Act→World→Prop} {E E':Env} {I I':Qw} {loc loc' L Z R:Loc}
variable {Jc:List α→Qw→Qw→Loc→Prop} {Jx:Code→List α→Qw→Qw→Loc→Prop} {pre:List α}
end
section
variable {α:Type} {P:Program} {N:Nat} {g:World} {p:Nat} {assign body:Code} {f:FuncId} {cap:List Value} {rel:Value→α→Qw→Prop} {xs:List α} {E:Env} {I H:Qw} {L B:Loc}
end
section
variable {α:Type} {P:Program} {N:Nat} {g:World} {H:Qw} {Q:Exit→Act→World→Prop} {gop:Operand} {p:Nat} {assign body:Code} {f:FuncId} {cap:List Value} {rel:Value→α→Qw→Prop} {xs:List α} {E:Env} {I:Qw} {L:Loc}
end
/-! ### A loop whose rounds may leave marks and turn the frame -/
section
variable {P:Program} {r:Option Nat} {N:Nat} {g:World} {H:Qw} {Q:Exit→Act→World→Prop} {E E':Env} {I I':Qw} {loc loc' L R:Loc} {ms:List Nat}
end
end
end Go.Kn
namespace Go.Proofs.YtodakphagkommaaGreatDoor
section
open Go Go.Kn Go.Proofs
def YJ (zs:List Int):List Int:=zs.mergeSort fun x y=>decide (x≤y)
end
section
open Go Go.Kn Go.Proofs
def zt4 (x y:Int):Int:=if x<y then -1 else if x>y then 1 else 0
structure HdP (I:Qw) where
 h:Hd
 v:List Int
 ok:Sl I 1 QP h.a h.n h.c v
 len:v.length≤1000
instance (I : Qw) : Inhabited (HdP I) := ⟨⟨⟨none, 0, 0⟩, [], Sl.nil, by simp⟩⟩
end
section
open Go Go.Kn Go.Proofs
theorem zls {n:Nat}{cl:List Int}(hc:Y8 n cl=0){s:Int}(hs:s∈cl):ZN s=false:=by
 have hle:=(Zy hc).2.2.2 s hs
 obtain ⟨a1,a2,a3⟩:=Xf (Um hc s hs) (Nat.le_refl 1)
 have a3:Vv cl s (Vc cl s 1)=true:=a3
 unfold Vv at a3
 simp only [Bool.and_eq_true] at a3
 generalize Vc cl s 1=a at a1 a2 a3
 cases h:ZN s with
 | false=>rfl
 | true=>
  exfalso
  have k1:=a3.1.1.1
  rw [zqn (by omega) (by omega)] at k1
  have ht:((List.range 64).all fun s=>(List.range 64).all fun a=>a==0|| !(ZN (s:Int))|| !(Vz a s)||(a==s))=true:=by kernel_rfl
  have h0:=List.all_eq_true.1 ht s.toNat (List.mem_range.2 (by omega))
  have h0:=List.all_eq_true.1 h0 a.toNat (List.mem_range.2 (by omega))
  rw [show ((s.toNat:Nat):Int)=s by omega,h,k1,show (a.toNat==0)=false by simp;omega] at h0
  have:a.toNat=s.toNat:=by simpa using h0
  omega
theorem zhe {m:Int}{cl:List Int}{s:Int}:iA m cl s=zbc m cl s∧iB m cl s=zaW m cl s:=by
 by_cases h:Y6 m cl s=0
 ·
  obtain ⟨e1,e2⟩:=zv4 h
  obtain ⟨e3,e4⟩:=zke h
  have hc:Y8 m cl=0:=by
   unfold Y6 at h
   by_cases e:Y8 m cl=0
   ·
    exact e
   ·
    rw [if_pos e] at h;exact absurd h e
  have hin:s∈cl:=by
   unfold Y6 at h
   rw [if_neg (fun e=>e hc)] at h
   cases e:cl.any (fun c=>c==s) with
   | true=>simpa using e
   | false=>rw [e] at h;simp at h
  obtain ⟨n,rfl⟩:∃ n:Nat,m=n:=⟨m.toNat,by have:=Zy hc;omega⟩
  obtain ⟨g1,g2,_⟩:=zfP hc hin (zls hc hin)
  rw [e1,e2,e3,e4,g1,g2]
  exact ⟨rfl,rfl⟩
 ·
  obtain ⟨e1,e2⟩:=zku h
  obtain ⟨e3,e4⟩:=zhF h
  rw [e1,e2,e3,e4]
  exact ⟨rfl,rfl⟩
end
section
open Go Go.Kn Go.Proofs
inductive Tr where
 | leaf (w:Nat)
 | node (a b:Tr)
def Tr.mask:Tr→Nat
 | .leaf w=>2^w
 | .node a b=>a.mask+b.mask
def Tr.ok (n:Nat):Tr→Prop
 | .leaf w=>w<n
 | .node a b=>a.ok n∧b.ok n∧a.mask&&& b.mask=0
def Tr.has (w:Nat):Tr→Prop
 | .leaf v=>v=w
 | .node a b=>a.has w∨b.has w
def Tr.sets:Tr→List Nat
 | .leaf _=>[]
 | .node a b=>(a.mask+b.mask)::(a.sets++b.sets)
/-! ### The least below -/
def bl (S:List Int)(f:Int→Int)(x:Int):Int:=(S.map fun y=>ZZ x y+f y).foldl JQ 1048576
def mn (S:List Int)(f:Int→Int):Int:=ZP (S.map f)
theorem zeG {S:List Int}{f:Int→Int}{x y:Int}(h:y∈S):bl S f x≤ZZ x y+f y:=(VU _ _).1 _ (List.mem_map.2 ⟨y,h,rfl⟩)
theorem zpc {S:List Int}{f:Int→Int}{x:Int}:bl S f x≤1048576:=(VU _ _).2.1
theorem zsu {S:List Int}{f:Int→Int}{x c:Int}(h:∀ y∈S,c≤ZZ x y+f y)(h1:c≤1048576):c≤bl S f x:=by
 rcases (VU (S.map fun y=>ZZ x y+f y) 1048576).2.2 with e | e
 ·
  unfold bl;rw [e];exact h1
 ·
  obtain ⟨y,hy,e2⟩:=List.mem_map.1 e
  have:=h y hy
  unfold bl;rw [←e2];exact this
theorem zgZ {S S':List Int}{f f':Int→Int}{x:Int}(hS:∀ y,y∈S↔y∈S')(hf:∀ y∈S,f y=f' y):bl S f x=bl S' f' x:=by
 apply Int.le_antisymm
 ·
  refine zsu (fun y hy=>?_) zpc
  have:=(hS y).2 hy
  rw [←hf y this];exact zeG this
 ·
  refine zsu (fun y hy=>?_) zpc
  rw [hf y hy];exact zeG ((hS y).1 hy)
theorem zgr {st:List Int}{f:Int→Int}{x:Int}:Yc st (st.map f) x=bl st f x:=by
 unfold Yc bl
 rw [zaC]
 congr 1
 refine List.ext_getElem (by simp) fun i h1 h2=>?_
 simp at h1
 rw [List.getElem_map,List.getElem_map,List.getElem_range]
 rw [QN (List.getElem?_eq_getElem h1),QN (x:=f st[i]) (by rw [List.getElem?_map,List.getElem?_eq_getElem h1];rfl)]
theorem zny {S:List Int}{f:Int→Int}{y:Int}(h:y∈S):mn S f≤f y:=
 (WB (List.ne_nil_of_mem (List.mem_map.2 ⟨y,h,rfl⟩))).2 _ (List.mem_map.2 ⟨y,h,rfl⟩)
theorem zsr {S:List Int}{f:Int→Int}(h:S≠[]):∃ y∈S,mn S f=f y:=by
 obtain ⟨y,hy,e⟩:=List.mem_map.1 (WB (xs:=S.map f) (by simpa using h)).1
 exact ⟨y,hy,e.symm⟩
def cT (S:List Int)(u:Nat→Int):Tr→Int→Int
 | .leaf w,x=>Yn (u w) x
 | .node a b,x=>bl S (cT S u a) x+bl S (cT S u b) x
theorem zfN (u x:Int):Yn u x=0∨Yn u x=1048576:=by unfold Yn;split<;>simp
theorem zhd {S:List Int}{f:Int→Int}{x:Int}(h:∀ y∈S,0≤f y):0≤bl S f x:=zsu (fun y hy=>by have:=h y hy;have:=(YW x y).1;omega) (by decide)
theorem zhf {S:List Int}{u:Nat→Int}:∀ (T:Tr) (x:Int),0≤cT S u T x
 | .leaf w,x=>by unfold cT;rcases zfN (u w) x with h | h<;>omega
 | .node a b,x=>by
  unfold cT
  have h1:=zhd (x:=x) fun y (_:y∈S)=>zhf (S:=S) (u:=u) a y
  have h2:=zhd (x:=x) fun y (_:y∈S)=>zhf (S:=S) (u:=u) b y
  omega
theorem zcy {S S':List Int}{u u':Nat→Int}(hS:∀ y,y∈S↔y∈S'):∀ (T:Tr) (x:Int),(∀ w,T.has w→u w=u' w)→cT S u T x=cT S' u' T x
 | .leaf w,x,h=>by unfold cT;rw [h w rfl]
 | .node a b,x,h=>by
  unfold cT
  rw [zgZ hS fun y _=>zcy hS a y fun w hw=>h w (.inl hw),zgZ hS fun y _=>zcy hS b y fun w hw=>h w (.inr hw)]
theorem VS:∀ T:Tr,1≤T.mask
 | .leaf w=>Nat.one_le_two_pow
 | .node a b=>by have:=VS a;have:=VS b;show 1≤a.mask+b.mask;omega
theorem zjp (x:Int):ZZ x x=0:=by unfold ZZ;rw [if_pos rfl]
theorem zcu {S:List Int}{u:Nat→Int}(h0:0∈S):∀ (n:Nat) (T:Tr),T.ok n→(∀ w,w<n→u w=8589934592∨u w∈S)→∃ x∈S,cT S u T x≤8*((T.mask:Int)-1)
 | n,.leaf w,hT,hu=>by
  rcases hu w hT with h | h
  ·
   exact ⟨0,h0,by unfold cT Yn;rw [if_neg (by simp [h])];have:=VS (.leaf w);omega⟩
  ·
   exact ⟨u w,h,by unfold cT Yn;rw [if_neg (by simp)];have:=VS (.leaf w);omega⟩
 | n,.node a b,⟨ha,hb,hd⟩,hu=>by
  obtain ⟨x,hx,h1⟩:=zcu h0 n a ha hu
  obtain ⟨y,hy,h2⟩:=zcu h0 n b hb hu
  refine ⟨x,hx,?_⟩
  unfold cT
  have e1:=zeG (f:=cT S u a) (x:=x) hx
  rw [zjp] at e1
  have e2:=zeG (f:=cT S u b) (x:=x) hy
  have e3:=(YW x y).2
  have hm:((Tr.node a b).mask:Int)=a.mask+b.mask:=by show ((a.mask+b.mask:Nat):Int)=_;omega
  have:=VS b
  have:=VS a
  omega
end
section
open Go Go.Kn Go.Proofs
def Kl (cl:List Int):Nat→Int→Tr
 | 0,_=>.leaf 0
 | f+1,s=>if ZN s=true then .leaf (Vx s) else .node (Kl cl f (Qx cl s)) (Kl cl f (s-Qx cl s))
theorem ze1 {cl:List Int}{f:Nat}{s:Int}(h:ZN s=true):Kl cl (f+1) s= .leaf (Vx s):=by simp only [Kl];rw [if_pos h]
theorem zeI {cl:List Int}{f:Nat}{s:Int}(h:ZN s=false):Kl cl (f+1) s= .node (Kl cl f (Qx cl s)) (Kl cl f (s-Qx cl s)):=by simp only [Kl];rw [if_neg (by rw [h];decide)]
theorem zfa:((List.range 64).all fun s=> !ZN (s:Int)||(2^Vx (s:Int)==s))=true:=by kernel_rfl
theorem zeQ {s:Int}(hs:1≤s∧s≤63)(h:ZN s=true):2^Vx s=s.toNat:=by
 have h0:=List.all_eq_true.1 zfa s.toNat (List.mem_range.2 (by omega))
 rw [show ((s.toNat:Nat):Int)=s by omega,h] at h0
 simpa using h0
theorem zc7:((List.range 6).all fun w=>ZN ((2^w:Nat):Int)&&(Vx ((2^w:Nat):Int)==w)&&decide (2^w<64))=true:=by kernel_rfl
theorem zm5 {w:Nat}(h:w<6):ZN ((2^w:Nat):Int)=true∧Vx ((2^w:Nat):Int)=w∧2^w<64:=by
 have h0:=List.all_eq_true.1 zc7 w (List.mem_range.2 h)
 simp only [Bool.and_eq_true,beq_iff_eq,decide_eq_true_eq] at h0
 exact ⟨h0.1.1,h0.1.2,h0.2⟩
section
variable {n:Nat} {cl:List Int} (hc:Y8 n cl=0)
include hc
theorem zco:∀ (f:Nat) (s:Int),s.toNat≤f→OkS n cl s→(Kl cl f s).ok n∧(Kl cl f s).mask=s.toNat∧∀ c∈(Kl cl f s).sets,(c:Int)∈cl
 | 0,s,hf,h=>by have:=h.1;omega
 | f+1,s,hf,h=>by
  have hle:=zbJ hc h
  have h6:=(Zy hc).2.1
  cases h1:ZN s with
  | true=>
   rw [ze1 h1]
   exact ⟨znk (n:=n) (by omega) hle h1 h.2.1,zeQ hle h1,fun c hcm=>by cases hcm⟩
  | false=>
   obtain ⟨hin,o1,o2,o3,o4,o5,_⟩:=YT hc h h1
   obtain ⟨q1,_,_⟩:=zab (by omega) (by omega) o5
   obtain ⟨i1,i2,i3⟩:=zco f _ (by omega) o1
   obtain ⟨j1,j2,j3⟩:=zco f _ (by omega) o2
   rw [zeI h1]
   refine ⟨⟨i1,j1,?_⟩,?_,fun c hcm=>?_⟩
   ·
    rw [i2,j2,show (s-Qx cl s).toNat=s.toNat -(Qx cl s).toNat by omega,Nat.and_comm];exact q1
   ·
    show _+_=_
    rw [i2,j2];omega
   ·
    rcases List.mem_cons.1 hcm with rfl | hcm
    ·
     rw [i2,j2,show (((Qx cl s).toNat+(s-Qx cl s).toNat:Nat):Int)=s by omega];exact hin
    ·
     rcases List.mem_append.1 hcm with hcm | hcm
     ·
      exact i3 c hcm
     ·
      exact j3 c hcm
end
def uF (rows:List (List Int))(l:Nat)(w:Nat):Int:=(rows.getD w []).getD l 0
theorem WV {rows:List (List Int)}{cl:List Int}{l n:Nat}(hc:Y8 n cl=0):∀ (f:Nat) (s:Int),s.toNat≤f→OkS n cl s→QO rows cl l f s=(QF rows l).map (cT (QF rows l) (uF rows l) (Kl cl f s))
 | 0,s,hf,h=>by have:=h.1;omega
 | f+1,s,hf,h=>by
  have hle:=zbJ hc h
  cases h1:ZN s with
  | true=>
   have hz:(JO s (IntKind.i64.wrap (s-1))==0)=true:=by unfold ZN at h1;rw [Bool.and_eq_true] at h1;exact h1.2
   rw [Ki hz,ze1 h1];rfl
  | false=>
   have hz:(JO s (IntKind.i64.wrap (s-1))==0)=false:=by unfold ZN at h1;rw [decide_eq_true (show s>0 by omega),Bool.true_and] at h1;exact h1
   obtain ⟨hin,o1,o2,o3,o4,o5,_⟩:=YT hc h h1
   rw [KP hz,zeI h1,WV hc f _ (by omega) o1,WV hc f _ (by omega) o2]
   refine List.map_congr_left fun x _=>?_
   unfold zhy
   rw [zgr,zgr];rfl
theorem zaG {n:Nat}(h6:n≤6):∀ {T:Tr},T.ok n→T.mask<64∧∃ q,Vz T.mask q=true∧q=2^n-1
 | .leaf w,h=>by
  have hw:w<n:=h
  refine ⟨(zm5 (by omega)).2.2,_,?_,rfl⟩
  have ht:((List.range 7).all fun n=>(List.range n).all fun w=>Vz (2^w) (2^n-1))=true:=by kernel_rfl
  have h0:=List.all_eq_true.1 ht n (List.mem_range.2 (by omega))
  exact List.all_eq_true.1 h0 w (List.mem_range.2 hw)
 | .node a b,⟨ha,hb,hd⟩=>by
  obtain ⟨a1,q,a2,rfl⟩:=zaG h6 ha
  obtain ⟨b1,q',b2,rfl⟩:=zaG h6 hb
  have ht:((List.range 64).all fun a=>(List.range 64).all fun b=> !(a&&& b==0)||decide (a+b<64)&&(List.range 7).all fun n=> !Vz a (2^n-1)|| !Vz b (2^n-1)||Vz (a+b) (2^n-1))=true:=by kernel_rfl
  have h0:=List.all_eq_true.1 ht a.mask (List.mem_range.2 a1)
  have h0:=List.all_eq_true.1 h0 b.mask (List.mem_range.2 b1)
  rw [show (a.mask&&& b.mask==0)=true by rw [hd];rfl,Bool.not_true,Bool.false_or,Bool.and_eq_true,decide_eq_true_eq] at h0
  have h1:=List.all_eq_true.1 h0.2 n (List.mem_range.2 (by omega))
  rw [a2,b2] at h1
  exact ⟨h0.1,_,by show Vz (a.mask+b.mask) _=true;simpa using h1,rfl⟩
theorem ztk:((List.range 64).all fun a=>(List.range 64).all fun b=>a==0||b==0|| !(a&&& b==0)||((zhO (a:Int) ((a+b:Nat):Int)||zhO (b:Int) ((a+b:Nat):Int))&&(JO (a:Int) ((a+b:Nat):Int)==(a:Int))&&(JO (b:Int) ((a+b:Nat):Int)==(b:Int))&&Vz a (a+b)&&Vz b (a+b)&&(zbD (a:Int)+zbD (b:Int)==zbD ((a+b:Nat):Int))))=true:=by kernel_rfl
theorem zuT {a b:Nat}(ha:1≤a∧a<64)(hb:1≤b∧b<64)(h:a&&& b=0):(zhO (a:Int) ((a+b:Nat):Int)=true∨zhO (b:Int) ((a+b:Nat):Int)=true)∧JO (a:Int) ((a+b:Nat):Int)=(a:Int)∧JO (b:Int) ((a+b:Nat):Int)=(b:Int)∧Vz a (a+b)=true∧Vz b (a+b)=true∧zbD (a:Int)+zbD (b:Int)=zbD ((a+b:Nat):Int):=by
 have h0:=List.all_eq_true.1 ztk a (List.mem_range.2 ha.2)
 have h0:=List.all_eq_true.1 h0 b (List.mem_range.2 hb.2)
 rw [h,show (a==0)=false by simp;omega,show (b==0)=false by simp;omega] at h0
 simpa [and_assoc] using h0
end
section
open Go Go.Kn Go.Proofs
theorem zsU {S:List Int}{f:Int→Int}{x:Int}:bl S f x=1048576∨∃ y∈S,bl S f x=ZZ x y+f y:=by
 rcases (VU (S.map fun y=>ZZ x y+f y) 1048576).2.2 with e | e
 ·
  exact .inl e
 ·
  obtain ⟨y,hy,e2⟩:=List.mem_map.1 e
  exact .inr ⟨y,hy,e2.symm⟩
section
variable {S S':List Int} {u u':Nat→Int} {p:Int} {k:Nat} (h0:0∈S') (hp:p∈S') (hz:p≠0∨∀ y∈S',y=0)
include h0 hp hz
end
theorem zx9 {rows:List (List Int)}{l w:Nat}(h:w<rows.length):uF rows l w=8589934592∨uF rows l w∈QF rows l:=by
 by_cases e:uF rows l w=8589934592
 ·
  exact .inl e
 ·
  right
  rw [zbj]
  refine .inr ⟨⟨rows.getD w [],?_,rfl⟩,e⟩
  unfold List.getD
  rw [List.getElem?_eq_getElem h]
  exact List.getElem_mem h
end
section
open Go Go.Kn Go.Proofs
theorem Wd {α β:Type}{f:α→β}{xs:List α}{i:Nat}{x:α}(h:xs[i]? =some x):(xs.take (i+1)).map f=(xs.take i).map f++[f x]:=by
 rw [List.take_add_one,h,List.map_append];rfl
theorem Jn {I:Qw}{b t k:Nat}{nm:List Int}{x:Int}{l:Go.Kn.Loc}(h:nm[k]? =some x):QY I ((b,.cells (Zk nm) t (0,0))::l) b (k*1) (.int .i64 x):=by
 refine .here ?_
 rw [Vb]
 unfold Zk
 rw [JL,Nat.mul_one]
 simp [h]
def VW (hs:List Hd):Array Value:=(hs.flatMap WL).toArray
theorem X5 (hs:List Hd):hs.flatMap WL=hs.map fun h=>Value.slice h.a h.n h.c:=by
 induction hs with
 | nil=>rfl
 | cons b hs ih=>rw [List.flatMap_cons,ih];rfl
theorem zhw {hs:List Hd}{m:Nat}{a:Option Addr}{n c:Nat}:(VW hs).setIfInBounds (m*1) (.slice a n c)=VW (hs.set m ⟨a,n,c⟩):=by
 unfold VW
 rw [X5,X5,Nat.mul_one];simp
theorem zz2 {hs:List Hd}{m:Nat}(h:m<hs.length):Nat.blt (m*1) (VW hs).size=true:=by
 unfold VW
 rw [X5,Nat.mul_one]
 simpa [Nat.blt_eq] using h
theorem zhl (n:Nat):(List.replicate n (Value.slice none 0 0)).toArray=VW (List.replicate n ⟨none,0,0⟩):=by
 unfold VW;rw [X5];simp
end
section
open Go Go.Kn Go.Proofs
def Tr.keys:Tr→List Int
 | .leaf w=>[((2^w:Nat):Int)]
 | .node a b=>((a.mask+b.mask:Nat):Int)::(a.keys++b.keys)
def zan (g:Int→Int):Tr→Int
 | .leaf _=>0
 | .node a b=>ZZ (g ((a.mask+b.mask:Nat):Int)) (g (a.mask:Int))+ZZ (g ((a.mask+b.mask:Nat):Int)) (g (b.mask:Int))+zan g a+zan g b
def zmA (S:List Int)(u:Nat→Int)(g:Int→Int):Tr→Prop
 | .leaf w=>(u w≠8589934592→g ((2^w:Nat):Int)=u w)∧g ((2^w:Nat):Int)∈S
 | .node a b=>g ((a.mask+b.mask:Nat):Int)∈S∧zmA S u g a∧zmA S u g b
theorem XF:∀ T:Tr,(T.mask:Int)∈T.keys
 | .leaf _=>List.mem_cons_self ..
 | .node _ _=>List.mem_cons_self ..
theorem zil {S:List Int}{u:Nat→Int}{g:Int→Int}:∀ {T:Tr},zmA S u g T→g (T.mask:Int)∈S
 | .leaf _,h=>h.2
 | .node _ _,h=>h.1
theorem Kw {g g':Int→Int}:∀ {T:Tr},(∀ k∈T.keys,g k=g' k)→zan g T=zan g' T
 | .leaf _,_=>rfl
 | .node a b,h=>by
  have ha:∀ k∈a.keys,g k=g' k:=fun k hk=>h k (List.mem_cons_of_mem _ (List.mem_append_left _ hk))
  have hb:∀ k∈b.keys,g k=g' k:=fun k hk=>h k (List.mem_cons_of_mem _ (List.mem_append_right _ hk))
  unfold zan
  rw [h _ (List.mem_cons_self ..),ha _ (XF a),hb _ (XF b),Kw ha,Kw hb]
theorem Uf {S:List Int}{u:Nat→Int}{g g':Int→Int}:∀ {T:Tr},(∀ k∈T.keys,g k=g' k)→zmA S u g T→zmA S u g' T
 | .leaf w,h,hg=>by
  have e:=h _ (List.mem_cons_self ..)
  exact ⟨fun hu=>by rw [←e];exact hg.1 hu,by rw [←e];exact hg.2⟩
 | .node a b,h,hg=>by
  have ha:∀ k∈a.keys,g k=g' k:=fun k hk=>h k (List.mem_cons_of_mem _ (List.mem_append_left _ hk))
  have hb:∀ k∈b.keys,g k=g' k:=fun k hk=>h k (List.mem_cons_of_mem _ (List.mem_append_right _ hk))
  exact ⟨by rw [←h _ (List.mem_cons_self ..)];exact hg.1,Uf ha hg.2.1,Uf hb hg.2.2⟩
theorem zlC {S:List Int}{u:Nat→Int}{g:Int→Int}:∀ {T:Tr},zmA S u g T→cT S u T (g (T.mask:Int))≤zan g T
 | .leaf w,h=>by
  show Yn (u w) (g ((2^w:Nat):Int))≤0
  unfold Yn
  by_cases e:u w=8589934592
  ·
   rw [e];simp
  ·
   rw [h.1 e];simp
 | .node a b,h=>by
  have ia:=zlC h.2.1
  have ib:=zlC h.2.2
  have la:=zeG (f:=cT S u a) (x:=g ((a.mask+b.mask:Nat):Int)) (zil h.2.1)
  have lb:=zeG (f:=cT S u b) (x:=g ((a.mask+b.mask:Nat):Int)) (zil h.2.2)
  show bl S (cT S u a) (g ((a.mask+b.mask:Nat):Int))+bl S (cT S u b) (g ((a.mask+b.mask:Nat):Int))≤_
  unfold zan
  omega
theorem Wc {n:Nat}(h6:n≤6):∀ {T:Tr},T.ok n→∀ k∈T.keys,1≤k∧Vz k.toNat T.mask=true
 | .leaf w,_,k,hk=>by
  rw [List.mem_singleton.1 hk]
  have:1≤2^w:=Nat.one_le_two_pow
  exact ⟨by omega,by rw [Int.toNat_natCast];exact K7 _⟩
 | .node a b,⟨ha,hb,hd⟩,k,hk=>by
  have pa:=VS a
  have pb:=VS b
  obtain ⟨_,_,_,t4,t5,_⟩:=zuT ⟨pa,(zaG h6 ha).1⟩ ⟨pb,(zaG h6 hb).1⟩ hd
  rcases List.mem_cons.1 hk with rfl | hk
  ·
   exact ⟨by omega,by rw [Int.toNat_natCast];exact K7 _⟩
  ·
   rcases List.mem_append.1 hk with hk | hk
   ·
    obtain ⟨h1,h2⟩:=Wc h6 ha k hk
    exact ⟨h1,VX h2 t4⟩
   ·
    obtain ⟨h1,h2⟩:=Wc h6 hb k hk
    exact ⟨h1,VX h2 t5⟩
theorem ziE {S:List Int}{u:Nat→Int}{n:Nat}(h6:n≤6):∀ (T:Tr),T.ok n→∀ x∈S,cT S u T x<1048576→∃ g,zmA S u g T∧g (T.mask:Int)=x∧zan g T≤cT S u T x
 | .leaf w,_,x,hx,h=>by
  refine ⟨fun _=>x,⟨fun hu=>?_,hx⟩,rfl,?_⟩
  ·
   have h:Yn (u w) x<1048576:=h
   unfold Yn at h
   by_cases e:u w=x
   ·
    exact e.symm
   ·
    rw [if_pos (by simp [hu,e])] at h;omega
  ·
   show (0:Int)≤Yn (u w) x
   rcases zfN (u w) x with e | e<;>omega
 | .node a b,⟨ha,hb,hd⟩,x,hx,h=>by
  have h:bl S (cT S u a) x+bl S (cT S u b) x<1048576:=h
  have na:=zhd (S:=S) (x:=x) fun y _=>zhf (S:=S) (u:=u) a y
  have nb:=zhd (S:=S) (x:=x) fun y _=>zhf (S:=S) (u:=u) b y
  rcases zsU (S:=S) (f:=cT S u a) (x:=x) with ea | ⟨y,hy,ea⟩
  ·
   omega
  rcases zsU (S:=S) (f:=cT S u b) (x:=x) with eb | ⟨z,hz,eb⟩
  ·
   omega
  have sy:=(YW x y).1
  have sz:=(YW x z).1
  obtain ⟨ga,a1,a2,a3⟩:=ziE (u:=u) h6 a ha y hy (by omega)
  obtain ⟨gb,b1,b2,b3⟩:=ziE (u:=u) h6 b hb z hz (by omega)
  have pa:=VS a
  have pb:=VS b
  have ka:∀ k∈a.keys,(if k=((a.mask+b.mask:Nat):Int) then x else if k∈a.keys then ga k else gb k)=ga k:=fun k hk=>by
   obtain ⟨k1,k2⟩:=Wc h6 ha k hk
   have:=Xk k2
   rw [if_neg (by omega),if_pos hk]
  have kb:∀ k∈b.keys,(if k=((a.mask+b.mask:Nat):Int) then x else if k∈a.keys then ga k else gb k)=gb k:=fun k hk=>by
   obtain ⟨k1,k2⟩:=Wc h6 hb k hk
   have:=Xk k2
   rw [if_neg (by omega),if_neg]
   intro hka
   obtain ⟨_,k3⟩:=Wc h6 ha k hka
   have:=Wj k3 k2 (by rw [Nat.and_comm];exact hd)
   omega
  refine ⟨fun k=>if k=((a.mask+b.mask:Nat):Int) then x else if k∈a.keys then ga k else gb k,⟨by simp only [if_true];exact hx,Uf (fun k hk=>(ka k hk).symm) a1,Uf (fun k hk=>(kb k hk).symm) b1⟩,?_,?_⟩
  ·
   show (if ((a.mask+b.mask:Nat):Int)=((a.mask+b.mask:Nat):Int) then x else _)=x
   rw [if_pos rfl]
  ·
   unfold zan
   rw [Kw ka,Kw kb,ka _ (XF a),kb _ (XF b),if_pos rfl,a2,b2]
   show _≤bl S (cT S u a) x+bl S (cT S u b) x
   omega
theorem zuG {S:List Int}{u:Nat→Int}{n:Nat}(h6:n≤6)(h0:0∈S){T:Tr}(hT:T.ok n)(hu:∀ w,w<n→u w=8589934592∨u w∈S):(∀ g,zmA S u g T→mn S (cT S u T)≤zan g T)∧(∃ g,zmA S u g T∧zan g T≤mn S (cT S u T))∧mn S (cT S u T)<1048576:=by
 obtain ⟨z,hz1,hz2⟩:=zcu (u:=u) h0 n T hT hu
 have hm6:=(zaG h6 hT).1
 have hle:=zny (f:=cT S u T) hz1
 refine ⟨fun g hg=>Int.le_trans (zny (zil hg)) (zlC hg),?_,by omega⟩
 obtain ⟨x,hx,e⟩:=zsr (f:=cT S u T) (List.ne_nil_of_mem h0)
 rw [e]
 obtain ⟨g,g1,_,g3⟩:=ziE (u:=u) h6 T hT x hx (by omega)
 exact ⟨g,g1,g3⟩
/-! ### As the search goes -/
end
section
open Go Go.Kn Go.Proofs
section
variable {S:List Int} {u:Nat→Int} {n:Nat} {cl:List Int}
end
theorem zeE:((List.range 6).all fun v=>(List.range 6).all fun w=>v==w|| !(2^v==2^w))=true:=by kernel_rfl
theorem zsf {v w:Nat}(hv:v<6)(hw:w<6)(h:2^v=2^w):v=w:=by
 have h0:=List.all_eq_true.1 zeE v (List.mem_range.2 hv)
 have h0:=List.all_eq_true.1 h0 w (List.mem_range.2 hw)
 rw [h] at h0
 simpa using h0
end
section
open Go Go.Kn Go.Proofs
def stL (rows:List (List Int))(l k:Nat):List Int:=0::(((List.range k).map fun w=>uF rows l w).filter fun x=>x != 8589934592)
theorem zwR {rows:List (List Int)}{l k:Nat}(h:uF rows l k≠8589934592):stL rows l (k+1)=stL rows l k++[uF rows l k]:=by
 unfold stL;rw [List.range_succ,List.map_append,List.filter_append];simp [h]
theorem zzy {rows:List (List Int)}{l k:Nat}(h:uF rows l k=8589934592):stL rows l (k+1)=stL rows l k:=by
 unfold stL;rw [List.range_succ,List.map_append,List.filter_append];simp [h]
theorem zuQ {rows:List (List Int)}{l:Nat}{y:Int}:y∈stL rows l rows.length↔y∈QF rows l:=by
 unfold stL
 rw [zbj,List.mem_cons,List.mem_filter,List.mem_map,bne_iff_ne]
 constructor
 ·
  rintro (h | ⟨⟨w,hw,rfl⟩,h⟩)
  ·
   exact .inl h
  ·
   have hw:=List.mem_range.1 hw
   refine .inr ⟨⟨rows.getD w [],?_,rfl⟩,h⟩
   unfold List.getD;rw [List.getElem?_eq_getElem hw];exact List.getElem_mem hw
 ·
  rintro (h | ⟨⟨r,hr,rfl⟩,h⟩)
  ·
   exact .inl h
  ·
   obtain ⟨w,hw,rfl⟩:=List.getElem_of_mem hr
   refine .inr ⟨⟨w,List.mem_range.2 hw,?_⟩,h⟩
   unfold uF
   rw [QN (List.getElem?_eq_getElem hw)]
theorem ztm:((List.range 6).all fun w=>IntKind.i64.wrap (1*2^(min ((w:Nat):Int).toNat IntKind.i64.bits))==((2^w:Nat):Int))=true:=by kernel_rfl
theorem zvF {w:Nat}(h:w<6):IntKind.i64.wrap (1*2^(min ((w:Nat):Int).toNat IntKind.i64.bits))=((2^w:Nat):Int):=eq_of_beq (List.all_eq_true.1 ztm w (List.mem_range.2 h))
end
section
open Go Go.Kn Go.Proofs
theorem zsq:Fun Tryz.prog 150:=.of Tryz.func150 (by kernel_rfl) (by kernel_rfl)
theorem zsb:Fun Tryz.prog 152:=.of Tryz.func152 (by kernel_rfl) (by kernel_rfl)
theorem ztD {I:Qw}{av:Option Addr}{n c:Nat}{xs:List Int}(hS:Sl I 1 QP av n c xs){bv:Option Addr}{n2 c2:Nat}{rows:List (List Int)}(hV:SlN I bv n2 c2 rows)(hn2:n2≤100000)(hDb:V5 I):Zu Tryz.prog 92 [.slice bv n2 c2,.slice av n c] I (.tuple #[.int .i64 (zdt rows xs),.int .i64 (Yk rows xs)]):=by
 intro g H w hw
 refine qe Tryz.func92 Tryz.ntmps92 hw ?_
 have hlV:=hV.len
 subst hlV
 refine zR (zA ?_)
 refine zA (zN (Qk (zR ?_)))
 refine zM ?_
 refine qc (vs:=[_]) rfl zsq (ztR hV hn2) ?_
 refine zA ?_
 refine zN (zR ?_)
 refine zM ?_
 refine zC (zN ?_)
 refine zI ?_ ?_<;>intro hc9
 ·
  have hr0:YX rows≠0:=by simpa using hc9
  obtain ⟨e1,e2⟩:=zbm (cl:=xs) hr0
  refine zR (zM ?_)
  refine zA ?_
  refine zA (zN (Qs (Qb ?_)))
  first
  | exact Zr rfl rfl rfl (fun w hw=>⟨by rw [e1,e2],hw.drop⟩)
 have hr0:YX rows=0:=by simpa using hc9
 refine Qo (Qa (Qk (zR (zM ?_))))
 refine zQ Q0 ?_
 refine zM ?_
 refine qc (vs:=[_,_]) rfl zkv (zid hS _) ?_
 refine zA ?_
 refine zN (zR ?_)
 refine zM ?_
 refine zC (zN ?_)
 refine zI ?_ ?_<;>intro hc16
 ·
  have hc0:Y8 rows.length xs≠0:=by simpa using hc16
  obtain ⟨e1,e2⟩:=zpA hr0 hc0
  refine zR (zM ?_)
  refine zA ?_
  refine zA (zN (Qs (Qb ?_)))
  first
  | exact Zr rfl rfl rfl (fun w hw=>⟨by rw [e1,e2],hw.drop⟩)
 have hc0:Y8 rows.length xs=0:=by simpa using hc16
 obtain ⟨e1,e2⟩:=zpP hr0 hc0
 have hn:n≤100000:=by have h1:=(Zy hc0).2.2.1;have h2:=hS.len;omega
 refine Qo (Qa (zR (zM ?_)))
 refine zM ?_
 refine qc (vs:=[_,_]) rfl zsb (zxy hS hn hV hn2 hDb hr0 hc0) ?_
 refine zA ?_
 refine zA (zN (Qs ?_))
 first
 | exact Zr rfl rfl rfl (fun w hw=>⟨by rw [e1,e2],hw.drop⟩)
end
section
open Go Go.Kn Go.Proofs
def Uz (u x:Int):Int:=if (u != 8589934592&&u != x)=true then 1073741824 else 0
def zg8 (S cs:List Int)(x:Int)(k:Nat):Int:=(List.range k).foldl (fun b j=>JQ b (ZZ x (S.getD j 0)+cs.getD j 0)) 1073741824
def Wy (S cs:List Int)(x:Int):Int:=zg8 S cs x S.length
theorem zlk {S cs:List Int}{x y c:Int}{k:Nat}(hy:S[k]? =some y)(hc:cs[k]? =some c):zg8 S cs x (k+1)=JQ (zg8 S cs x k) (ZZ x y+c):=by
 unfold zg8
 rw [List.range_succ,List.foldl_append,List.foldl_cons,List.foldl_nil,QN hy,QN hc]
theorem zck {S cs:List Int}{x:Int}(h:∀ c∈cs,0≤c):∀ k,0≤zg8 S cs x k∧zg8 S cs x k≤1073741824
 | 0=>by unfold zg8;simp
 | k+1=>by
  have ih:=zck (S:=S) (x:=x) h k
  have e:zg8 S cs x (k+1)=JQ (zg8 S cs x k) (ZZ x (S.getD k 0)+cs.getD k 0):=by unfold zg8;rw [List.range_succ,List.foldl_append];rfl
  have h1:0≤cs.getD k 0:=by
   unfold List.getD
   cases hc:cs[k]? with
   | none=>exact Int.le_refl _
   | some c=>exact h c (List.mem_of_getElem? hc)
  have h2:=(YW x (S.getD k 0)).1
  rw [e]
  unfold JQ
  split<;>omega
def Uv (S A B:List Int)(j:Nat)(x:Int):Int:=(if 0<j then Wy S A x else 0)+(if 1<j then Wy S B x else 0)
theorem zjB {S A B:List Int}{j:Nat}{x:Int}(hj:j<2):Uv S A B j x+Wy S (if j=0 then A else B) x=Uv S A B (j+1) x:=by
 unfold Uv
 rcases (show j=0∨j=1 by omega) with rfl | rfl<;>simp
theorem ziu {S A B:List Int}{x:Int}(hA:∀ c∈A,0≤c)(hB:∀ c∈B,0≤c)(j:Nat):0≤Uv S A B j x∧Uv S A B j x≤2147483648:=by
 have a:0≤Wy S A x∧Wy S A x≤1073741824:=zck hA S.length
 have b:0≤Wy S B x∧Wy S B x≤1073741824:=zck hB S.length
 unfold Uv
 split<;>split<;>omega
def rcF (S:List Int)(u:Nat→Int)(cl:List Int):Nat→Int→List Int
 | 0,_=>[]
 | f+1,s=>if ZN s=true then S.map (Uz (u (Vx s))) else S.map (Uv S (rcF S u cl f (Qx cl s)) (rcF S u cl f (s-Qx cl s)) 2)
theorem zxv {S:List Int}{u:Nat→Int}{cl:List Int}{f:Nat}{s:Int}(h:ZN s=true):rcF S u cl (f+1) s=S.map (Uz (u (Vx s))):=by simp only [rcF];rw [if_pos h]
theorem zxJ {S:List Int}{u:Nat→Int}{cl:List Int}{f:Nat}{s:Int}(h:ZN s=false):rcF S u cl (f+1) s=S.map (Uv S (rcF S u cl f (Qx cl s)) (rcF S u cl f (s-Qx cl s)) 2):=by simp only [rcF];rw [if_neg (by rw [h];decide)]
theorem zkJ {S:List Int}{u:Nat→Int}{cl:List Int}:∀ (f:Nat) (s:Int),∀ c∈rcF S u cl f s,0≤c∧c≤2147483648
 | 0,_,c,h=>by cases h
 | f+1,s,c,h=>by
  cases h1:ZN s with
  | true=>
   rw [zxv h1] at h
   obtain ⟨x,_,rfl⟩:=List.mem_map.1 h
   unfold Uz;split<;>omega
  | false=>
   rw [zxJ h1] at h
   obtain ⟨x,_,rfl⟩:=List.mem_map.1 h
   exact ziu (fun c hc=>(zkJ f _ c hc).1) (fun c hc=>(zkJ f _ c hc).1) 2
theorem zue {S:List Int}{u:Nat→Int}{cl:List Int}{f:Nat}{s:Int}:(rcF S u cl (f+1) s).length=S.length:=by
 cases h1:ZN s with
 | true=>rw [zxv h1,List.length_map]
 | false=>rw [zxJ h1,List.length_map]
def W5 (S:List Int)(g h:Int→Int)(i:Nat):List Int:=(S.take i).map g++(S.drop i).map h
theorem zkU {S:List Int}{g h:Int→Int}:W5 S g h 0=S.map h:=by unfold W5;simp
theorem zkl {S:List Int}{g h:Int→Int}{i:Nat}(hi:S.length≤i):W5 S g h i=S.map g:=by unfold W5;rw [List.take_of_length_le hi,List.drop_eq_nil_of_le hi];simp
theorem zio {S:List Int}{g h:Int→Int}{i:Nat}:(W5 S g h i).length=S.length:=by unfold W5;rw [List.length_append,List.length_map,List.length_map,←List.length_append,List.take_append_drop]
theorem zva {S:List Int}{g h:Int→Int}{i:Nat}{x:Int}(hx:S[i]? =some x):(W5 S g h i)[i]? =some (h x):=by
 have hi:=(List.getElem?_eq_some_iff.1 hx).1
 have hl:((S.take i).map g).length=i:=by rw [List.length_map,List.length_take];omega
 unfold W5
 rw [List.getElem?_append_right (by omega),hl,Nat.sub_self,Z5 hx];rfl
theorem zj2 {S:List Int}{g h:Int→Int}{i:Nat}{x:Int}(hx:S[i]? =some x):(W5 S g h i).set i (g x)=W5 S g h (i+1):=by
 have hi:=(List.getElem?_eq_some_iff.1 hx).1
 have hl:((S.take i).map g).length=i:=by rw [List.length_map,List.length_take];omega
 unfold W5
 rw [List.set_append_right _ _ (by omega),hl,Nat.sub_self,Z5 hx,List.map_cons,List.set_cons_zero,Wd hx,List.append_assoc];rfl
theorem zl2 {S:List Int}{g h:Int→Int}{i:Nat}{x:Int}(hx:S[i]? =some x)(e:g x=h x):W5 S g h i=W5 S g h (i+1):=by
 unfold W5
 rw [Z5 hx,Wd hx,List.append_assoc,List.map_cons,e];rfl
theorem zhZ {S:List Int}{g h:Int→Int}(e:∀ x,h x=0):List.replicate S.length (0:Int)=W5 S g h 0:=by
 rw [zkU]
 induction S with
 | nil=>rfl
 | cons x S ih=>rw [List.map_cons,e,List.length_cons,List.replicate_succ,ih]
theorem zvU {s:Int}(hs:1≤s∧s≤63)(h:ZN s=true):Vx s<6:=by
 have e:=zeQ hs h
 by_cases h6:Vx s<6
 ·
  exact h6
 ·
  have:2^6≤2^Vx s:=Nat.pow_le_pow_right (by decide) (by omega)
  omega
theorem zpC {s:Int}{w:Nat}(hs:1≤s∧s≤63)(h:ZN s=true)(hw:w≤Vx s):(IntKind.i64.wrap (1*2^(min ((w:Nat):Int).toNat IntKind.i64.bits)) != s)=decide (w<Vx s):=by
 have h6:=zvU hs h
 have e:=zeQ hs h
 rw [zvF (by omega)]
 by_cases hl:w<Vx s
 ·
  rw [decide_eq_true hl,bne_iff_ne]
  intro e2
  have:w=Vx s:=zsf (by omega) h6 (by omega)
  omega
 ·
  rw [decide_eq_false hl,bne_eq_false_iff_eq]
  have:w=Vx s:=by omega
  rw [this];omega
structure RtE (I:Qw)(fid bst brow bloc bcla bse:Nat)(sv bv av:Option Addr)(ns cs n2 c2 n c:Nat)(St xs:List Int)(rows:List (List Int))(l:Nat):Prop where
 st:QY I [] bst 0 (.slice sv ns cs)
 row:QY I [] brow 0 (.slice bv n2 c2)
 loc:QY I [] bloc 0 (.int .i64 l)
 cla:QY I [] bcla 0 (.slice av n c)
 se:QY I [] bse 0 (.func (.func fid) #[] #[Ze bst,Ze brow,Ze bloc,Ze bcla,Ze bse])
 hT:Sl I 1 QP sv ns cs St
 hS:Sl I 1 QP av n c xs
 hV:SlN I bv n2 c2 rows
theorem RtE.mono {I I':Qw}{fid bst brow bloc bcla bse:Nat}{sv bv av:Option Addr}{ns cs n2 c2 n c:Nat}{St xs:List Int}{rows:List (List Int)}{l:Nat}(h:RtE I fid bst brow bloc bcla bse sv bv av ns cs n2 c2 n c St xs rows l)(hI:HLe I I'):RtE I' fid bst brow bloc bcla bse sv bv av ns cs n2 c2 n c St xs rows l:=
 ⟨h.st.mono hI,h.row.mono hI,h.loc.mono hI,h.cla.mono hI,h.se.mono hI,h.hT.mono hI,h.hS.mono hI,h.hV.mono hI⟩
end
section
open Go Go.Kn Go.Proofs
theorem zow:Fun Tryz.prog 93:=.of Tryz.func93 (by kernel_rfl) (by kernel_rfl)
theorem zvh:Fun Tryz.prog 94:=.of Tryz.func94 (by kernel_rfl) (by kernel_rfl)
theorem zww:Fun Tryz.prog 95:=.of Tryz.func95 (by kernel_rfl) (by kernel_rfl)
theorem zkW:ScT Tryz.prog 174:=.of (by kernel_rfl)
theorem zma (I:Qw)(x y:Int):Zu Tryz.prog 95 [.int .i64 x,.int .i64 y] I (.int .i64 (ZZ x y)):=by
 intro g H w hw
 refine qe Tryz.func95 Tryz.ntmps95 hw ?_
 refine zR (zA (zN (Qk (Ql (zR ?_)))))
 refine zM ?_
 refine zM ?_
 refine zC ?_
 refine zA (zN ?_)
 refine zI ?_ ?_<;>intro hc5
 ·
  refine zR (zA (zN (Qs (Qm (Qb ?_)))))
  first
  | exact zr rfl rfl (by unfold ZZ;rw [if_pos (by simpa using hc5)])
 refine zR (zM ?_)
 refine zC ?_
 refine zA (zN ?_)
 refine zI ?_ ?_<;>intro hc9
 ·
  refine zR (zA (zN (Qs (Qm (Qb ?_)))))
  first
  | exact zr rfl rfl (by unfold ZZ;rw [if_neg (by simpa using hc5),if_pos (by simpa using hc9)])
 refine zR (zM ?_)
 refine zC ?_
 refine zA (zN ?_)
 refine zI ?_ ?_<;>intro hc12
 ·
  refine zR (zA (zN (Qs (Qm (Qb ?_)))))
  first
  | exact zr rfl rfl (by unfold ZZ;rw [if_neg (by simpa using hc5),if_neg (by simpa using hc9),if_pos (by simpa using hc12)])
 refine Qo (Qg (Qa (zR (zA (zN (Qs ?_))))))
 first
 | exact zr rfl rfl (by unfold ZZ;rw [if_neg (by simpa using hc5),if_neg (by simpa using hc9),if_neg (by simpa using hc12)])
theorem zmG {I:Qw}{av:Option Addr}{n c m:Nat}{xs:List Int}(hS:Sl I 1 QP av n c xs)(hn:n≤100000)(hc:Y8 m xs=0){s:Int}(hin:s∈xs):Zu Tryz.prog 94 [.int .i64 m,.slice av n c,.int .i64 s] I (.tuple #[.int .i64 (Qx xs s),.int .i64 (s-Qx xs s),.int .i64 0]):=by
 have h:=zrA hS hn (m:Int) s
 have e:Y6 (m:Int) xs s=0:=zdT hc (List.any_eq_true.2 ⟨s,hin,by simp⟩)
 obtain ⟨e1,e2⟩:=zhe (m:=(m:Int)) (cl:=xs) (s:=s)
 rw [e1,e2,e] at h
 unfold zbc zaW at h
 rw [if_neg (by omega),if_neg (by omega)] at h
 exact h
theorem zn3 {I:Qw}{bst brow bloc bcla bse:Nat}{sv bv av:Option Addr}{ns cs n2 c2 n c:Nat}{St xs:List Int}{rows:List (List Int)}{l:Nat}(hE:RtE I 93 bst brow bloc bcla bse sv bv av ns cs n2 c2 n c St xs rows l)(hn:n≤100000)(hn2:n2≤100000)(hns:ns≤1000)(hl:∀ r∈rows,l<r.length)(hc:Y8 rows.length xs=0)(f:Nat)(s:Int)(hok:OkS rows.length xs s)(hf:1<s→1≤f)(ih:∀ (I':Qw),HLe I I'→∀ (s':Int),OkS rows.length xs s'→s'<s→Z4 Tryz.prog 93 ([.int .i64 s']++[Ze bst,Ze brow,Ze bloc,Ze bcla,Ze bse]) I' [] (KD 1 QP (rcF St (uF rows l) xs f s'))):Z4 Tryz.prog 93 [.int .i64 s,Ze bst,Ze brow,Ze bloc,Ze bcla,Ze bse] I [] (KD 1 QP (rcF St (uF rows l) xs (f+1) s)):=by
 intro g H w hw
 refine qe Tryz.func93 Tryz.ntmps93 hw ?_
 have hIc:=zAl I
 have hVl:=hE.hV.len
 subst hVl
 have hTl:=hE.hT.len
 subst hTl
 obtain ⟨hs,hV⟩:=hE.hV
 have hH:=hV.1
 have hal:=(Zy hc).1
 have hal6:=(Zy hc).2.1
 have hs63:=zbJ hc hok
 refine zR (zA ?_)
 refine zN (zR ?_)
 refine zV (Qd rfl QJ (fun hg=>by exact hE.st.any)) ?_
 refine zQ Qt ?_
 refine Q4 YC rfl rfl (by omega) (by decide) rfl rfl (fun b_26=>?_)
 refine zA (Qc ?_)
 have e0:((St.length:Nat):Int).toNat=St.length:=rfl
 rw [e0,Q7]
 refine Qa (Qk (zR (zM ?_)))
 refine zM ?_
 refine zB ?_
 refine zV (Kj rfl rfl) ?_
 refine zC (zN ?_)
 refine zI ?_ ?_<;>intro hc31
 ·
  have hsing:ZN s=true:=by unfold ZN;rw [decide_eq_true (show s>0 by omega),Bool.true_and,zlW hs63];exact hc31
  have hwn:=znk (n:=rows.length) (by omega) hs63 hsing hok.2.1
  have hw6:=zvU hs63 hsing
  refine zR (zA (zN (Qk (Ql ?_))))
  refine zU [(0,_),(1,_),(2,_),(3,_),(8,_)] (fun T L0 mz E I' loc'=>∃ (k:Nat),mz=(Vx s)-k∧E=(9,.int .i64 k)::T∧I=I'∧[(b_26,.cells (Zk (List.replicate St.length 0)) 3 (0,0))]=loc'∧k≤(Vx s)) ?_ (h:=⟨0,rfl,rfl,rfl,rfl,Nat.zero_le _⟩)
  rintro mz E I' loc' ⟨k,rfl,rfl,rfl,rfl,hk⟩
  refine Qk (zR (zM ?_))
  refine zV (K6 rfl rfl (fun hg=>by omega)) ?_
  refine zM ?_
  refine zC (zN ?_)
  refine zI ?_ ?_<;>intro hc35
  ·
   have hlt_k:k<Vx s:=by rw [zpC hs63 hsing hk] at hc35;simpa using hc35
   refine Qo (Qa (Ql (Qf (zM ?_))))
   refine zB ?_
   refine zA (Qc (Qg ?_))
   exact zm (h:=⟨(Vx s)-(k+1),by omega,k+1,rfl,rfl,rfl,rfl,by omega⟩)
  have hge_k:k=Vx s:=by rw [zpC hs63 hsing hk] at hc35;simp at hc35;omega
  subst hge_k
  obtain ⟨x,v,hx,hv,hQ⟩:=hV.at hwn
  have hlv:=hl v (List.mem_of_getElem? hv)
  have hu:=QX (d:=0) rfl hlv
  have hvn:=hQ.len
  have hUF:uF rows l (Vx s)=v.getD l 0:=by unfold uF;rw [QN hv]
  rw [zhZ (g:=(Uz (uF rows l (Vx s)))) (h:=(fun _=>0)) (fun _=>rfl)]
  refine QH (Qe (Qe (Qj (Qa (Qk (zR ?_))))))
  refine zV (Qd rfl QJ (fun hg=>by exact hE.st.any)) ?_
  refine zQ Qt ?_
  refine zM (zN (Ql ?_))
  refine zU [(2,_),(3,_),(8,_),(9,_),(38,_),(39,_)] (fun T L0 mz E I' loc'=>∃ (i:Nat),mz=St.length-i∧E=(40,.int .i64 i)::T∧I=I'∧[(b_26,.cells (Zk (W5 St (Uz (uF rows l (Vx s))) (fun _=>0) i)) 3 (0,0))]=loc'∧i≤St.length) ?_ (h:=⟨0,rfl,rfl,rfl,rfl,Nat.zero_le _⟩)
  rintro mz E I' loc' ⟨i,rfl,rfl,rfl,rfl,hi⟩
  refine zR (zC (zN (Qk ?_)))
  refine zI ?_ ?_<;>intro hc41
  ·
   have hlt_i:i<St.length:=by have h:=hc41;simp at h;omega
   obtain ⟨y,hst⟩:=hE.hT.at hlt_i
   refine Qo (Qa (Qk (Ql (zR (zM ?_)))))
   refine zV (Qz rfl rfl Qt hE.hT (fun hg=>by omega)) ?_
   refine zV (Qd rfl Qr (fun hg=>by exact zAe (hE.hT) hst rfl)) ?_
   refine zA ?_
   refine zA (zN (Qk ?_))
   refine Yq mixed (by kernel_rfl) ?_
   refine zq (Qd rfl KB (fun hg=>by exact hE.row.any)) ?_
   refine zq (Qh rfl) ?_
   refine zq (zX Q0 hH) ?_
   refine zq (Qd rfl QJ (fun hg=>by exact zAe hH hx rfl)) ?_
   refine zq (Qd rfl Qr (fun hg=>by exact hE.loc.any)) ?_
   refine zq (zX Qt hQ) ?_
   refine zq (Qd rfl Qr (fun hg=>by exact zAe hQ hu rfl)) ?_
   refine zq (ZM rfl) ?_
   refine Yp ?_
   refine Qa (zR (zM ?_))
   refine zC ?_
   refine zM ?_
   refine QG 2 rfl rfl rfl ?_
   refine zK (Qh rfl) ?_
   refine zK (Qh rfl) ?_
   refine zK (QI rfl rfl rfl) ?_
   refine QL rfl rfl rfl rfl rfl ?_
   refine zN ?_
   refine zI ?_ ?_<;>intro hc58
   ·
    have hgy:(Uz (uF rows l (Vx s))) y=1073741824:=by unfold Uz;rw [hUF,if_pos (by simpa using hc58)]
    refine Qf (zM ?_)
    refine zM ?_
    refine zV (Q6 rfl rfl Qt (fun hg=>by omega)) ?_
    refine ZE rfl rfl Yd rfl rfl (by repeat (first | exact Upd.here | apply Upd.there | apply QM)) (zsX (by rw [zio];omega)) ?_
    refine Qc ?_
    rw [YQ,show (W5 St (Uz (uF rows l (Vx s))) (fun _=>0) i).set i 1073741824=W5 St (Uz (uF rows l (Vx s))) (fun _=>0) (i+1) from by rw [←zj2 hst,hgy]]
    refine Qg (Qa (Qf (zB ?_)))
    refine zM (Qc ?_)
    exact zm (h:=⟨St.length-(i+1),by omega,i+1,rfl,rfl,rfl,rfl,by omega⟩)
   have hgy:(Uz (uF rows l (Vx s))) y=0:=by unfold Uz;rw [hUF,if_neg (by rw [hc58];decide)]
   rw [zl2 hst hgy]
   refine Qo (Qg (Qa (Qf (zB ?_))))
   refine zM (Qc ?_)
   exact zm (h:=⟨St.length-(i+1),by omega,i+1,rfl,rfl,rfl,rfl,by omega⟩)
  have hge_i:St.length≤i:=by have h:=hc41;simp at h;omega
  rw [zkl hge_i]
  refine QH (Qe (Qe (Qj (Qa (zR (zM ?_))))))
  refine zA (zN (Qs (Qb ?_)))
  first
  | exact Zq rfl rfl (fun w hw=>by obtain ⟨I9,h91,h92,h93⟩:=OwnS.res (XK (by rw [List.length_map]) (by omega)) Qu (by decide) hw;rw [←zxv (f:=f) (cl:=xs) hsing] at h93;exact ⟨_,I9,[],rfl,hIc.trans h91,h92,h93⟩)
 have hns0:ZN s=false:=by unfold ZN;rw [decide_eq_true (show s>0 by omega),Bool.true_and,zlW hs63];exact hc31
 obtain ⟨hin,ok1,ok2,hp1,hp2,_,_⟩:=YT hc hok hns0
 obtain ⟨f0,rfl⟩:∃ f0,f=f0+1:=⟨f-1,by have:=hf (by omega);omega⟩
 rw [zhZ (g:=(Uv St (rcF St (uF rows l) xs (f0+1) (Qx xs s)) (rcF St (uF rows l) xs (f0+1) (s-Qx xs s)) 0)) (h:=(Uv St (rcF St (uF rows l) xs (f0+1) (Qx xs s)) (rcF St (uF rows l) xs (f0+1) (s-Qx xs s)) 0)) (fun _=>by unfold Uv;simp)]
 refine Qo (Qa (zR ?_))
 refine zV (Qd rfl KB (fun hg=>by exact hE.row.any)) ?_
 refine zQ Q0 ?_
 refine zV (Qd rfl QJ (fun hg=>by exact hE.cla.any)) ?_
 refine zM ?_
 refine qc (vs:=[_,_,_]) rfl zvh (zmG hE.hS hn hc hin) ?_
 refine zM ?_
 refine zE ?_
 refine zE ?_
 refine zE ?_
 refine zA ?_
 refine zA ?_
 refine zA (zN (Qk (zR ?_)))
 refine zM ?_
 refine zM ?_
 refine Qp (ps:=[(0,_),(1,_)]) (m:=[QP (Qx xs s),QP (s-Qx xs s)]) Za rfl (.cons rfl (.cons rfl (.nil))) rfl (by simp [Qu]) (by decide) (by decide) rfl rfl (fun b_75=>?_)
 refine Z1 (b:=b_75) (by repeat (first | exact Zc.here | apply Zc.there)) (fun I3 hI3 hb3=>?_)
 have hE:=hE.mono hI3;have hIc:=hIc.trans hI3
 have hAB:Sl I3 1 QP (some ⟨b_75,0,none⟩) 2 2 ([Qx xs s,s-Qx xs s]:List Int):=Sl.lit ([Qx xs s,s-Qx xs s]:List Int) rfl Qu (show _=some (Obj.cells (([Qx xs s,s-Qx xs s]:List Int).flatMap QP).toArray 3 (0,0)) from hb3)
 refine zQ Qt ?_
 refine zM (zN (Ql ?_))
 refine zU [(1,_),(5,_),(8,_),(75,_),(76,_)] (fun T L0 mz E I' loc'=>∃ (j:Nat),mz=2-j∧E=(77,.int .i64 j)::T∧HLe I3 I'∧[(b_26,.cells (Zk (W5 St (Uv St (rcF St (uF rows l) xs (f0+1) (Qx xs s)) (rcF St (uF rows l) xs (f0+1) (s-Qx xs s)) j) (Uv St (rcF St (uF rows l) xs (f0+1) (Qx xs s)) (rcF St (uF rows l) xs (f0+1) (s-Qx xs s)) j) 0)) 3 (0,0))]=loc'∧j≤2) ?_ (h:=⟨0,rfl,rfl,zAl _,rfl,Nat.zero_le _⟩)
 rintro mz E J4 loc' ⟨j,rfl,rfl,hJ,rfl,hj⟩
 have hE:=hE.mono hJ;have hAB:=hAB.mono hJ;have hIc:=hIc.trans hJ
 have hB4:=hJ
 refine zR (zC (zN (Qk ?_)))
 refine zI ?_ ?_<;>intro hc78
 ·
  have hlt_j:j<2:=by have h:=hc78;simp at h;omega
  obtain ⟨q,hpj,hpe,okp,hpl⟩:∃ q,([Qx xs s,s-Qx xs s]:List Int)[j]? =some q∧(rcF St (uF rows l) xs (f0+1) (q))=(if j=0 then (rcF St (uF rows l) xs (f0+1) (Qx xs s)) else (rcF St (uF rows l) xs (f0+1) (s-Qx xs s)))∧OkS rows.length xs q∧q<s:=by
   rcases (show j=0∨j=1 by omega) with rfl | rfl
   ·
    exact ⟨_,rfl,rfl,ok1,by omega⟩
   exact ⟨_,rfl,rfl,ok2,by omega⟩
  have hcl:(if j=0 then (rcF St (uF rows l) xs (f0+1) (Qx xs s)) else (rcF St (uF rows l) xs (f0+1) (s-Qx xs s))).length=St.length:=by split<;>exact zue
  have hci:∀ c∈(if j=0 then (rcF St (uF rows l) xs (f0+1) (Qx xs s)) else (rcF St (uF rows l) xs (f0+1) (s-Qx xs s))),0≤c∧c≤2147483648:=by split<;>exact zkJ _ _
  rw [show W5 St (Uv St (rcF St (uF rows l) xs (f0+1) (Qx xs s)) (rcF St (uF rows l) xs (f0+1) (s-Qx xs s)) j) (Uv St (rcF St (uF rows l) xs (f0+1) (Qx xs s)) (rcF St (uF rows l) xs (f0+1) (s-Qx xs s)) j) 0=W5 St (Uv St (rcF St (uF rows l) xs (f0+1) (Qx xs s)) (rcF St (uF rows l) xs (f0+1) (s-Qx xs s)) (j+1)) (Uv St (rcF St (uF rows l) xs (f0+1) (Qx xs s)) (rcF St (uF rows l) xs (f0+1) (s-Qx xs s)) j) 0 by rw [zkU,zkU]]
  refine Qo (Qa (Qk (Ql (zR ?_))))
  refine zV (zX Qt hAB) ?_
  refine zV (Qd rfl Qr (fun hg=>by exact zAe hAB hpj rfl)) ?_
  refine zA ?_
  refine zN (zR ?_)
  refine zV (Qd rfl zkW (fun hg=>by exact hE.se.any)) ?_
  refine zM ?_
  refine QA (cap:=[Ze bst,Ze brow,Ze bloc,Ze bcla,Ze bse]) (vs:=[_]) rfl rfl zow (by exact .nil) (ih _ hIc _ okp hpl) rfl rfl ?_
  rintro vv5 I5 L5 hI5 ⟨rfl,aC,cC,rfl,hBl⟩
  have hE:=hE.mono hI5;have hB4:=hB4.trans hI5
  rw [hpe] at hBl ⊢
  refine zA ?_
  refine zN (zR ?_)
  refine zV (Qd rfl QJ (fun hg=>by exact hE.st.any)) ?_
  refine zQ Qt ?_
  refine zM (zN (Ql ?_))
  refine zU [(1,_),(5,_),(8,_),(18,_),(75,_),(76,_),(77,_),(84,_),(85,_)] (fun T L0 mz E I' loc'=>∃ (i:Nat),mz=St.length-i∧E=(86,.int .i64 i)::T∧I5=I'∧[(b_26,.cells (Zk (W5 St (Uv St (rcF St (uF rows l) xs (f0+1) (Qx xs s)) (rcF St (uF rows l) xs (f0+1) (s-Qx xs s)) (j+1)) (Uv St (rcF St (uF rows l) xs (f0+1) (Qx xs s)) (rcF St (uF rows l) xs (f0+1) (s-Qx xs s)) j) i)) 3 (0,0))]=loc'∧i≤St.length) ?_ (h:=⟨0,rfl,rfl,rfl,rfl,Nat.zero_le _⟩)
  rintro mz E I' loc' ⟨i,rfl,rfl,rfl,rfl,hi⟩
  refine zR (zC (zN (Qk ?_)))
  refine zI ?_ ?_<;>intro hc87
  ·
   have hlt_i:i<St.length:=by have h:=hc87;simp at h;omega
   obtain ⟨y,hst⟩:=hE.hT.at hlt_i
   have hti:=ziu (S:=St) (A:=(rcF St (uF rows l) xs (f0+1) (Qx xs s))) (B:=(rcF St (uF rows l) xs (f0+1) (s-Qx xs s))) (x:=y) (fun c h=>(zkJ _ _ c h).1) (fun c h=>(zkJ _ _ c h).1) j
   refine Qo (Qa (Qk (Ql (zR (zM ?_)))))
   refine zV (Qz rfl rfl Qt hE.hT (fun hg=>by omega)) ?_
   refine zV (Qd rfl Qr (fun hg=>by exact zAe (hE.hT) hst rfl)) ?_
   refine zA ?_
   refine zA ?_
   refine zN (zR ?_)
   refine zA (zN (Qk (zR ?_)))
   refine zV (Qd rfl QJ (fun hg=>by exact hE.st.any)) ?_
   refine zQ Qt ?_
   refine zM (zN (Ql ?_))
   refine zU [(1,_),(5,_),(8,_),(18,_),(19,_),(20,_),(75,_),(76,_),(77,_),(84,_),(85,_),(86,_),(91,_),(92,_)] (fun T L0 mz E I' loc'=>∃ (k:Nat),mz=St.length-k∧E=(21,.int .i64 (zg8 St (if j=0 then (rcF St (uF rows l) xs (f0+1) (Qx xs s)) else (rcF St (uF rows l) xs (f0+1) (s-Qx xs s))) y k))::(93,.int .i64 k)::T∧I5=I'∧[(b_26,.cells (Zk (W5 St (Uv St (rcF St (uF rows l) xs (f0+1) (Qx xs s)) (rcF St (uF rows l) xs (f0+1) (s-Qx xs s)) (j+1)) (Uv St (rcF St (uF rows l) xs (f0+1) (Qx xs s)) (rcF St (uF rows l) xs (f0+1) (s-Qx xs s)) j) i)) 3 (0,0))]=loc'∧k≤St.length) ?_ (h:=⟨0,rfl,rfl,rfl,rfl,Nat.zero_le _⟩)
   rintro mz E I' loc' ⟨k,rfl,rfl,rfl,rfl,hk⟩
   refine zR (zC (zN (Qk ?_)))
   refine zI ?_ ?_<;>intro hc94
   ·
    have hlt_k:k<St.length:=by have h:=hc94;simp at h;omega
    obtain ⟨yk,hsk⟩:=hE.hT.at hlt_k
    obtain ⟨ck,hck⟩:=hBl.at (show k<_ by omega)
    have hcki:=hci ck (List.mem_of_getElem? hck)
    have hsti:=YW y yk
    refine Qo (Qa (Qk (Ql (zR (zM ?_)))))
    refine zV (Qz rfl rfl Qt hE.hT (fun hg=>by omega)) ?_
    refine zV (Qd rfl Qr (fun hg=>by exact zAe (hE.hT) hsk rfl)) ?_
    refine zA ?_
    refine zA (zN ?_)
    refine Yq mixed (by kernel_rfl) ?_
    refine zq (Qh rfl) ?_
    refine zq (Qh rfl) ?_
    refine zq (Qh rfl) ?_
    refine Vs (cap:=[]) (vs:=[_,_]) rfl rfl zww (zma _ _ _) rfl rfl ?_
    refine zq (Qh rfl) ?_
    refine zq (Qh rfl) ?_
    refine zq (zX Qt hBl) ?_
    refine zq (Qd rfl Qr (fun hg=>by exact zAe hBl hck rfl)) ?_
    refine zq (ZA rfl rfl rfl (fun hg=>by omega)) ?_
    refine zq (zdm rfl rfl) ?_
    refine zq (ZM rfl) ?_
    refine Yp ?_
    rw [←zlk hsk hck]
    refine Qg (Qa (Qf (zB ?_)))
    refine zM (Qc ?_)
    exact zm (h:=⟨St.length-(k+1),by omega,k+1,rfl,rfl,rfl,rfl,by omega⟩)
   have hge_k:St.length≤k:=by have h:=hc94;simp at h;omega
   rw [show k=St.length by omega]
   have hmni:=zck (S:=St) (x:=y) (fun c h=>(hci c h).1) St.length
   refine QH (Qe (Qe (Qj (Qa (Qf (zM ?_))))))
   refine zM ?_
   refine zV (Q6 rfl rfl Qt (fun hg=>by omega)) ?_
   refine zV (Qd rfl Qr (fun hg=>by exact Jn (zva hst))) ?_
   refine zM ?_
   refine zB ?_
   refine zV (Q6 rfl rfl Qt (fun hg=>by omega)) ?_
   refine ZE rfl rfl Yd rfl rfl (by repeat (first | exact Upd.here | apply Upd.there | apply QM)) (zsX (by rw [zio];omega)) ?_
   refine Qc ?_
   rw [YQ,show (W5 St (Uv St (rcF St (uF rows l) xs (f0+1) (Qx xs s)) (rcF St (uF rows l) xs (f0+1) (s-Qx xs s)) (j+1)) (Uv St (rcF St (uF rows l) xs (f0+1) (Qx xs s)) (rcF St (uF rows l) xs (f0+1) (s-Qx xs s)) j) i).set i ((Uv St (rcF St (uF rows l) xs (f0+1) (Qx xs s)) (rcF St (uF rows l) xs (f0+1) (s-Qx xs s)) j) y+zg8 St (if j=0 then (rcF St (uF rows l) xs (f0+1) (Qx xs s)) else (rcF St (uF rows l) xs (f0+1) (s-Qx xs s))) y St.length)=W5 St (Uv St (rcF St (uF rows l) xs (f0+1) (Qx xs s)) (rcF St (uF rows l) xs (f0+1) (s-Qx xs s)) (j+1)) (Uv St (rcF St (uF rows l) xs (f0+1) (Qx xs s)) (rcF St (uF rows l) xs (f0+1) (s-Qx xs s)) j) (i+1) from by rw [←zj2 hst,←zjB hlt_j];rfl]
   refine Qg (Qa (Qf (zB ?_)))
   refine zM (Qc ?_)
   exact zm (h:=⟨St.length-(i+1),by omega,i+1,rfl,rfl,rfl,rfl,by omega⟩)
  have hge_i:St.length≤i:=by have h:=hc87;simp at h;omega
  rw [show W5 St (Uv St (rcF St (uF rows l) xs (f0+1) (Qx xs s)) (rcF St (uF rows l) xs (f0+1) (s-Qx xs s)) (j+1)) (Uv St (rcF St (uF rows l) xs (f0+1) (Qx xs s)) (rcF St (uF rows l) xs (f0+1) (s-Qx xs s)) j) i=W5 St (Uv St (rcF St (uF rows l) xs (f0+1) (Qx xs s)) (rcF St (uF rows l) xs (f0+1) (s-Qx xs s)) (j+1)) (Uv St (rcF St (uF rows l) xs (f0+1) (Qx xs s)) (rcF St (uF rows l) xs (f0+1) (s-Qx xs s)) (j+1)) 0 by rw [zkl hge_i,zkU]]
  refine QH (Qe (Qe (Qj (Qg (Qa (Qf (zB ?_)))))))
  refine zM (Qc ?_)
  exact zm (h:=⟨2-(j+1),by omega,j+1,rfl,rfl,hB4,rfl,by omega⟩)
 have hge_j:2≤j:=by have h:=hc78;simp at h;omega
 rw [show j=2 by omega,zkU]
 refine QH (Qe (Qe (Qj (Qa (zR (zM ?_))))))
 refine zA (zN (Qs ?_))
 first
 | exact Zq rfl rfl (fun w hw=>by obtain ⟨I9,h91,h92,h93⟩:=OwnS.res (XK (by rw [List.length_map]) (by omega)) Qu (by decide) hw;rw [←zxJ (f:=f0+1) hns0] at h93;exact ⟨_,I9,[],rfl,hIc.trans h91,h92,h93⟩)
end
section
open Go Go.Kn
theorem zfz (d:Array Int)(hs:∀ j,0<j→j<d.size→d[j-1]! ≤d[j]!):∀ m,m≤d.size→(Lib.compactUpTo d m).Pairwise (· < ·)∧(∀ x∈Lib.compactUpTo d m,0<m∧x≤d[m-1]!)∧∀ x,x∈Lib.compactUpTo d m↔ ∃ j,j<m∧d[j]! =x
 | 0,_=>⟨.nil,(fun x h=>by cases h),fun x=>⟨(fun h=>by cases h),fun ⟨j,h,_⟩=>by omega⟩⟩
 | m+1,hm=>by
  obtain ⟨h1,h2,h3⟩:=zfz d hs m (by omega)
  rw [Lib.compactUpTo_succ]
  by_cases hk:Lib.keeps d m=true
  ·
   rw [if_pos hk]
   have hlt:∀ x∈Lib.compactUpTo d m,x<d[m]! :=fun x hx=>by
    obtain ⟨a,b⟩:=h2 x hx
    have h4:=hs m a (by omega)
    unfold Lib.keeps at hk
    have h5:=of_decide_eq_true hk
    omega
   refine ⟨?_,?_,?_⟩
   ·
    rw [List.pairwise_append]
    exact ⟨h1,List.pairwise_singleton ..,fun y hy z hz=>by rw [List.mem_singleton] at hz;rw [hz];exact hlt y hy⟩
   ·
    intro x hx
    refine ⟨by omega,?_⟩
    rw [show m+1-1=m from by omega]
    rcases List.mem_append.1 hx with hx | hx
    ·
     have:=hlt x hx;omega
    ·
     rw [List.mem_singleton] at hx;rw [hx];exact Int.le_refl _
   ·
    intro x
    rw [List.mem_append,h3,List.mem_singleton]
    constructor
    ·
     rintro (⟨j,a,b⟩ | e)
     ·
      exact ⟨j,by omega,b⟩
     ·
      exact ⟨m,by omega,e.symm⟩
    ·
     rintro ⟨j,a,b⟩
     by_cases e:j=m
     ·
      subst e;exact .inr b.symm
     ·
      exact .inl ⟨j,by omega,b⟩
  ·
   rw [if_neg hk,List.append_nil]
   unfold Lib.keeps at hk
   have h5:¬(m=0∨d[m]! ≠d[m-1]!):=fun h=>hk (decide_eq_true h)
   have h6:0<m∧d[m]! =d[m-1]! :=by omega
   refine ⟨h1,?_,?_⟩
   ·
    intro x hx
    have:=h2 x hx
    rw [show m+1-1=m from by omega]
    omega
   ·
    intro x
    rw [h3]
    constructor
    ·
     rintro ⟨j,a,b⟩;exact ⟨j,by omega,b⟩
    ·
     rintro ⟨j,a,b⟩
     by_cases e:j=m
     ·
      subst e;exact ⟨j-1,by omega,by rw [←h6.2];exact b⟩
     ·
      exact ⟨j,by omega,b⟩
theorem KJ (zs:List Int):(Lib.compact (YJ zs)).Pairwise (· < ·)∧∀ x,x∈Lib.compact (YJ zs)↔x∈zs:=by
 have hp:(YJ zs).Pairwise (fun a b=>decide (a≤b)=true):=List.pairwise_mergeSort (by intro a b c;simp;omega) (by intro a b;simp;omega) zs
 have hget:∀ j,j<(YJ zs).length→(YJ zs).toArray[j]! =(YJ zs)[j]! :=fun j hj=>by simp
 have hs:∀ j,0<j→j<(YJ zs).toArray.size→(YJ zs).toArray[j-1]! ≤(YJ zs).toArray[j]! :=by
  intro j h0 hj
  have hj':j<(YJ zs).length:=by simpa using hj
  have h1:=List.pairwise_iff_getElem.1 hp (j-1) j (by omega) hj' (by omega)
  have h2:=of_decide_eq_true h1
  simpa [hj',show j-1<(YJ zs).length from by omega] using h2
 obtain ⟨h1,_,h3⟩:=zfz (YJ zs).toArray hs (YJ zs).length (by simp)
 refine ⟨h1,fun x=>?_⟩
 unfold Lib.compact
 rw [h3]
 have hmem:x∈YJ zs↔x∈zs:=(List.mergeSort_perm zs _).mem_iff
 rw [←hmem]
 constructor
 ·
  rintro ⟨j,hj,e⟩
  have:(YJ zs)[j]=x:=by simpa [hj] using e
  rw [←this];exact List.getElem_mem hj
 ·
  intro h
  obtain ⟨j,hj,e⟩:=List.getElem_of_mem h
  exact ⟨j,hj,by simpa [hj] using e⟩
end
section
open Go Go.Kn Go.Proofs
def rcV (S:List Int)(u:Nat→Int)(cl:List Int)(f:Nat)(s x:Int):Int:=if ZN s=true then Uz (u (Vx s)) x else Uv S (rcF S u cl f (Qx cl s)) (rcF S u cl f (s-Qx cl s)) 2 x
theorem zvQ {S:List Int}{u:Nat→Int}{cl:List Int}{f:Nat}{s:Int}:rcF S u cl (f+1) s=S.map (rcV S u cl f s):=by
 cases h:ZN s with
 | true=>rw [zxv h];exact List.map_congr_left fun x _=>by unfold rcV;rw [if_pos h]
 | false=>rw [zxJ h];exact List.map_congr_left fun x _=>by unfold rcV;rw [if_neg (by rw [h];decide)]
def stE (rows:List (List Int))(l:Nat):List Int:=Lib.compact (YJ (stL rows l rows.length))
def zgt (rows:List (List Int))(cl:List Int)(l:Nat):List Int:=rcF (stE rows l) (uF rows l) cl 64 (ZK rows.length)
def zmT (rows:List (List Int))(cl:List Int)(l:Nat)(x:Int):Int:=rcV (stE rows l) (uF rows l) cl 63 (ZK rows.length) x
theorem X8 {rows:List (List Int)}{cl:List Int}{l:Nat}:zgt rows cl l=(stE rows l).map (zmT rows cl l):=zvQ (f:=63)
def Y3 (rows:List (List Int))(cl:List Int)(l:Nat):List Int:=(stE rows l).filter fun x=>zmT rows cl l x==ZP (zgt rows cl l)
def U8 (rows:List (List Int))(cl:List Int):List (List Int):=if Yk rows cl≠0 then [] else (List.range (rows.getD 0 []).length).map (Y3 rows cl)
theorem Wf {rows:List (List Int)}{cl:List Int}(h:Yk rows cl≠0):U8 rows cl=[]:=by unfold U8;rw [if_pos h]
theorem Uh {rows:List (List Int)}{cl:List Int}(h:Yk rows cl=0):U8 rows cl=(List.range (rows.getD 0 []).length).map (Y3 rows cl):=by unfold U8;rw [if_neg (by omega)]
theorem KN {α:Type}{f:Nat→α}{k:Nat}:(List.range (k+1)).map f=(List.range k).map f++[f k]:=by rw [List.range_succ,List.map_append];rfl
theorem znK {α:Type}{p:α→Bool}{xs:List α}{k:Nat}{x:α}(hx:xs[k]? =some x)(h:p x=true):(xs.take (k+1)).filter p=(xs.take k).filter p++[x]:=by
 rw [List.take_add_one,hx,List.filter_append];simp [h]
theorem zqM {α:Type}{p:α→Bool}{xs:List α}{k:Nat}{x:α}(hx:xs[k]? =some x)(h:p x=false):(xs.take (k+1)).filter p=(xs.take k).filter p:=by
 rw [List.take_add_one,hx,List.filter_append];simp [h]
theorem zeY {rows:List (List Int)}{l:Nat}:(stE rows l).length≤rows.length+1:=by
 have h1:(stL rows l rows.length).length≤rows.length+1:=by
  unfold stL
  have:=List.length_filter_le (fun x=>x != 8589934592) ((List.range rows.length).map fun w=>uF rows l w)
  rw [List.length_map,List.length_range] at this
  rw [List.length_cons];omega
 have h2:(YJ (stL rows l rows.length)).length=(stL rows l rows.length).length:=by unfold YJ;exact (List.mergeSort_perm _ _).length_eq
 have h3:=Lib.compact_length_le (YJ (stL rows l rows.length))
 unfold stE;omega
theorem KV {rows:List (List Int)}{l:Nat}{y:Int}:y∈stE rows l↔y∈QF rows l:=by unfold stE;rw [(KJ _).2,zuQ]
theorem zpR {rows:List (List Int)}{l:Nat}:(stE rows l).Pairwise (· < ·):=(KJ _).1
theorem zjM {rows:List (List Int)}{l:Nat}:0<(stE rows l).length:=List.length_pos_of_mem (KV.2 (zbj.2 (.inl rfl)))
theorem ziR {rows:List (List Int)}{cl:List Int}{l:Nat}:(zgt rows cl l).length=(stE rows l).length:=by rw [X8,List.length_map]
def zoz (rows:List (List Int))(cl:List Int):Value→Qw→Go.Kn.Loc→Prop:=fun v I' L=>L=[]∧∃ av c,v= .tuple #[.slice av (U8 rows cl).length c,.int .i64 (Yk rows cl)]∧SlN I' av (U8 rows cl).length c (U8 rows cl)
end
end Go.Proofs.YtodakphagkommaaGreatDoor
namespace Go.Kn
section
open Go Go.Sort Go.Shelf Go.Lib Go.Proofs
theorem zmw {w w':World}{L:Loc}(h:St w (fun b=>w.heap[b]?) (fun _=>none) L w'):∃ q os',w'=grow (w.drewN q) os':=by
 refine ⟨w'.drawn-w.drawn,w'.heap.extract w.heap.size w'.heap.size,?_⟩
 have h1:=h.size
 have hh:w.heap++w'.heap.extract w.heap.size w'.heap.size=w'.heap:=by
  apply Array.ext'
  apply List.ext_getElem?
  intro i
  by_cases hi:i<w.heap.size
  ·
   have:=h.imm i _ (Array.getElem?_eq_getElem hi)
   rw [Array.getElem?_toList,Array.getElem?_toList,this,Array.getElem?_append_left hi,Array.getElem?_eq_getElem hi]
  ·
   rw [Array.getElem?_toList,Array.getElem?_toList,Array.getElem?_append_right (by omega),Array.getElem?_extract]
   by_cases h2:i<w'.heap.size
   ·
    rw [if_pos (by omega),show w.heap.size+(i-w.heap.size)=i by omega]
   ·
    rw [if_neg (by omega),Array.getElem?_eq_none (by omega)]
 have e1:=h.os;have e2:=h.tape;have e3:=h.out
 cases w;cases w'
 simp only [grow,World.drewN] at*
 subst e1;subst e2;subst e3
 simp only [World.mk.injEq,true_and,and_true]
 exact ⟨hh.symm,by omega⟩
theorem zkc {α:Type}[Inhabited α]{enc:α→List Value}{k:Nat}(hk:∀ x,(enc x).length=k)(hpos:0<k)(xs:List α):flatK enc k xs.toArray=(xs.flatMap enc).toArray:=by
 have hl:(xs.flatMap enc).length=xs.length*k:=ZD hk xs
 apply Array.ext
 ·
  rw [size_flatK];simp [hl]
 ·
  intro t h1 h2
  have ht:t<xs.length*k:=by rw [size_flatK] at h1;simpa using h1
  have hq:t / k<xs.length:=by rw [Nat.div_lt_iff_lt_mul hpos];exact ht
  have hr:t % k<k:=Nat.mod_lt _ hpos
  have hx:xs[t / k]? =some xs[t / k]:=List.getElem?_eq_getElem hq
  have hu:(enc xs[t / k])[t % k]? =some ((enc xs[t / k])[t % k]'(by rw [hk];exact hr)):=List.getElem?_eq_getElem _
  have h3:=X6 hk xs (t / k) _ hx (t % k) _ hu
  rw [Nat.mul_comm,Nat.div_add_mod] at h3
  have h4:=get_flatK enc k xs.toArray t (by simpa using ht)
  rw [getElem!_pos (flatK enc k xs.toArray) t h1] at h4
  rw [h4]
  have e1:xs.toArray[t / k]! =xs[t / k]'hq:=by simp [hq]
  rw [e1]
  have e2:(enc (xs[t / k]'hq))[t % k]! =(enc (xs[t / k]'hq))[t % k]'(by rw [hk];exact hr):=getElem!_pos (enc (xs[t / k]'hq)) (t % k) (by rw [hk];exact hr)
  rw [e2]
  have e3:(xs.flatMap enc).toArray[t]? =some ((enc xs[t / k])[t % k]'(by rw [hk];exact hr)):=by simpa using h3
  rw [Array.getElem?_eq_getElem h2] at e3
  exact (Option.some.inj e3).symm
theorem zmp {α:Type}[Inhabited α]{P:Program}{f g0:FuncId}{e:TypeId}{k:Nat}{enc:α→List Value}{cf:α→α→Int}(hk:∀ x,(enc x).length=k)(hpos:0<k)
  (hs:∀ (blk off cap:Nat) (d:Array α) (w:World),CmpLays P g0 #[] enc k cf blk off d.size w→HoldsK enc k w blk off d→blk<w.heap.size→d.size<4611686018427387904→
   Calls P f #[.slice (some ⟨blk,off,none⟩) d.size cap,.func (.func g0) #[] #[]] w fun e w'=>e= .returned (.tuple #[])∧∃ d' n os,PermIn 0 d.size d d'∧SortedIn (ltOf cf) 0 d.size d'∧w'=sortWorldK enc k w blk off n d' os)
  (h0:∀ (p:Option Addr) (cap:Nat) (fv:Value) (w:World),Calls P f #[.slice p 0 cap,fv] w fun e w'=>e= .returned (.tuple #[])∧w'=w)
  (hcmp:∀ (I:Qw) (x y:α),Zu P g0 [.agg (enc x).toArray,.agg (enc y).toArray] I (.int .i64 (cf x y)))
  (zs:List α){v:Value}{n:Nat}{L:Loc}(hO:OwnS e k v n (zs.flatMap enc) L)(hn:n≤1000000)(I:Qw):
  Z4 P f [v,.func (.func g0) #[] #[]] I L (fun u I' L'=>u= .tuple #[]∧I'=I∧∃ zs':List α,zs'.Perm zs∧zs'.Pairwise (fun x y=>ltOf cf y x=false)∧OwnS e k v n (zs'.flatMap enc) L'):=by
 intro g H w hw
 have hl:zs.length=n:=by
  have:=hO.1
  rw [ZD hk] at this
  exact Nat.eq_of_mul_eq_mul_right hpos this
 subst hl
 rcases hO.2 with ⟨rfl,h00,rfl⟩ | ⟨b,c,cur,rfl,rfl,hc,hc2,hsz,htk⟩
 ·
  have:zs=[]:=List.length_eq_zero_iff.1 h00
  subst this
  refine (h0 none 0 _ w).mono ?_
  rintro e w' ⟨rfl,rfl⟩
  exact ⟨_,I,[],rfl,zAl _,hw,rfl,rfl,[],.nil,.nil,by simp,.inl ⟨rfl,rfl,rfl⟩⟩
 ·
  have hb:=hw.own b _ (List.mem_singleton.2 rfl)
  have hbs:b<w.heap.size:=(Array.getElem?_eq_some_iff.1 hb).1
  have hfl:(zs.flatMap enc).length=zs.length*k:=ZD hk zs
  have hH:HoldsK enc k w b 0 zs.toArray:=by
   unfold HoldsK
   rw [zkc hk hpos]
   exact zaL (enc:=id) hw (List.mem_singleton.2 rfl) (zs.flatMap enc) (by rw [hfl,htk];simp)
  have hC:CmpLays P g0 #[] enc k cf b 0 zs.toArray.size w:=by
   intro m os dk _ x y
   have h1:=hcmp (fun q=>(sortWorldK enc k w b 0 m dk os).heap[q]?) x y (sortWorldK enc k w b 0 m dk os) (fun _=>none) (sortWorldK enc k w b 0 m dk os)
    ⟨rfl,rfl,rfl,⟨Nat.le_refl _,Nat.le_refl _⟩,fun _ _ h=>h,(fun _ _ h=>by cases h),(fun _ _ h=>by cases h),fun _=>.inr rfl,(fun _ _ h=>by cases h),by simp⟩
   refine Calls.mono h1 ?_
   rintro e w' ⟨rfl,hs⟩
   exact ⟨rfl,zmw hs⟩
  have hcall:=hs b 0 c zs.toArray w hC hH hbs (by simp;omega)
  rw [List.size_toArray] at hcall
  refine hcall.mono ?_
  rintro e w' ⟨rfl,d',m,os,hp,hsd,rfl⟩
  have hps:d'.size=zs.length:=by simpa using hp.1
  have hperm:d'.toList.Perm zs:=by
   have:=hp.2.2
   simpa [Array.extract_eq_self_of_le,hps] using this
  have hdl:d'=d'.toList.toArray:=by simp
  have hfd:(d'.toList.flatMap enc).length=zs.length*k:=by rw [ZD hk,Array.length_toList,hps]
  refine ⟨_,I,[(b,.cells (putCells id 0 (d'.toList.flatMap enc).toArray cur) e (0,0))],rfl,zAl _,?_,rfl,rfl,d'.toList,hperm,?_,?_⟩
  ·
   unfold sortWorldK putRowK
   rw [hdl,zkc hk hpos]
   simp only
   exact (((hw.aheadN m).rowPut (enc:=id) _ .here).grown os)
  ·
   rw [List.pairwise_iff_getElem]
   intro i j hi hj hij
   have:=hsd i j (Nat.zero_le _) hij (by rw [←hps];simpa using hj)
   rw [getElem!_pos d' i (by simpa using hi),getElem!_pos d' j (by simpa using hj)] at this
   simpa using this
  ·
   refine ⟨by rw [hfd],.inr ⟨b,c,_,rfl,rfl,hc,hc2,by simp [putCells,hsz],?_⟩⟩
   have:=zce (enc:=id) (cs:=cur) (n:=zs.length*k) (d'.toList.flatMap enc) hfd (by rw [hsz];exact Nat.mul_le_mul_right k hc)
   simpa using this
end
end Go.Kn
namespace Go.Proofs
section
open Go.Shelf
def Tryz.lays189_ren:Go.Shelf.Ren:=⟨fun | 189=>64 | 125=>108 | 257=>107 | 128=>164 | 129=>165 | 294=>155 | 295=>156 | 296=>157 | 297=>158 | 298=>159 | 299=>160 | 216=>161 | 300=>162 | 301=>163 | 328=>204 | 329=>205 | 330=>206 | 331=>207 | 332=>208 | 215=>192 | 343=>238 | n=>n,fun | 28=>23 | 3=>3 | 46=>186 | 0=>0 | 51=>234 | 53=>236 | 4=>4 | 183=>228 | 182=>227 | 131=>141 | 5=>5 | 9=>9 | 218=>259 | 222=>253 | 228=>278 | 229=>279 | n=>n,fun | n=>n⟩
theorem Tryz.lays189:Go.Proofs.Lays.n189 Tryz.prog Tryz.lays189_ren:={
 mixed:=by kernel_rfl
 f125:=Tryz.func108.trans (congrArg some (by kernel_rfl))
 f128:=Tryz.func164.trans (congrArg some (by kernel_rfl))
 f129:=Tryz.func165.trans (congrArg some (by kernel_rfl))
 f189:=Tryz.func64.trans (congrArg some (by kernel_rfl))
 f215:=Tryz.func192.trans (congrArg some (by kernel_rfl))
 f216:=Tryz.func161.trans (congrArg some (by kernel_rfl))
 f257:=Tryz.func107.trans (congrArg some (by kernel_rfl))
 f294:=Tryz.func155.trans (congrArg some (by kernel_rfl))
 f295:=Tryz.func156.trans (congrArg some (by kernel_rfl))
 f296:=Tryz.func157.trans (congrArg some (by kernel_rfl))
 f297:=Tryz.func158.trans (congrArg some (by kernel_rfl))
 f298:=Tryz.func159.trans (congrArg some (by kernel_rfl))
 f299:=Tryz.func160.trans (congrArg some (by kernel_rfl))
 f300:=Tryz.func162.trans (congrArg some (by kernel_rfl))
 f301:=Tryz.func163.trans (congrArg some (by kernel_rfl))
 f328:=Tryz.func204.trans (congrArg some (by kernel_rfl))
 f329:=Tryz.func205.trans (congrArg some (by kernel_rfl))
 f330:=Tryz.func206.trans (congrArg some (by kernel_rfl))
 f331:=Tryz.func207.trans (congrArg some (by kernel_rfl))
 f332:=Tryz.func208.trans (congrArg some (by kernel_rfl))
 f343:=Tryz.func238.trans (congrArg some (by kernel_rfl))
 t0:=Tryz.underlying0
 a0:=Tryz.isAgg0
 z0:=Tryz.sizeOf0
 v0:=Tryz.zeroValue0
 t3:=Tryz.underlying3
 a3:=Tryz.isAgg3
 z3:=Tryz.sizeOf3
 v3:=Tryz.zeroValue3
 t4:=Tryz.underlying4
 a4:=Tryz.isAgg4
 z4:=Tryz.sizeOf4
 v4:=Tryz.zeroValue4
 t5:=Tryz.underlying5
 a5:=Tryz.isAgg5
 z5:=Tryz.sizeOf5
 v5:=Tryz.zeroValue5
 t9:=Tryz.underlying9
 a9:=Tryz.isAgg9
 z9:=Tryz.sizeOf9
 v9:=Tryz.zeroValue9
 t28:=Tryz.underlying23
 a28:=Tryz.isAgg23
 z28:=Tryz.sizeOf23
 v28:=Tryz.zeroValue23
 t46:=Tryz.underlying186
 a46:=Tryz.isAgg186
 z46:=Tryz.sizeOf186
 v46:=Tryz.zeroValue186
 t51:=Tryz.underlying234
 a51:=Tryz.isAgg234
 z51:=Tryz.sizeOf234
 v51:=Tryz.zeroValue234
 t53:=Tryz.underlying236
 a53:=Tryz.isAgg236
 z53:=Tryz.sizeOf236
 v53:=Tryz.zeroValue236
 t131:=Tryz.underlying141
 a131:=Tryz.isAgg141
 z131:=Tryz.sizeOf141
 v131:=Tryz.zeroValue141
 t182:=Tryz.underlying227
 a182:=Tryz.isAgg227
 z182:=Tryz.sizeOf227
 v182:=Tryz.zeroValue227
 t183:=Tryz.underlying228
 a183:=Tryz.isAgg228
 z183:=Tryz.sizeOf228
 v183:=Tryz.zeroValue228
 t218:=Tryz.underlying259
 a218:=Tryz.isAgg259
 z218:=Tryz.sizeOf259
 v218:=Tryz.zeroValue259
 t222:=Tryz.underlying253
 a222:=Tryz.isAgg253
 z222:=Tryz.sizeOf253
 v222:=Tryz.zeroValue253
 t228:=Tryz.underlying278
 a228:=Tryz.isAgg278
 z228:=Tryz.sizeOf278
 v228:=Tryz.zeroValue278
 t229:=Tryz.underlying279
 a229:=Tryz.isAgg279
 z229:=Tryz.sizeOf279
 v229:=Tryz.zeroValue279}
open Go.Sort Go.RowKit in
theorem Tryz.slices_Sort_int (blk off cap:Nat) (zs:List Int) (w:World) (hH:Holds (Value.int .i64) w blk off zs.toArray) (hblk:blk<w.heap.size) (hsz:zs.length<4611686018427387904):
  Calls Tryz.prog 64 #[.slice (some ⟨blk,off,none⟩) zs.length cap] w fun e w'=>
   e= .returned (.tuple #[])∧∃ n os,w'=grow (putRow (Value.int .i64) (Sort.ahead w n) blk off (zs.mergeSort fun x y=>decide (x≤y)).toArray) os:=Any.slices_Sort_int Tryz.lays189 blk off cap zs w hH hblk hsz
def Tryz.laysNm220_ren:Go.Shelf.Ren:=⟨fun | 20=>91 | n=>n,fun | 22=>23 | 3=>3 | 4=>4 | 0=>0 | n=>n,fun | n=>n⟩
theorem Tryz.laysNm220:Go.Proofs.Lays2.n20 Tryz.prog Tryz.laysNm220_ren:={
 mixed:=by kernel_rfl
 f20:=Tryz.func91.trans (congrArg some (by kernel_rfl))
 t0:=Tryz.underlying0
 a0:=Tryz.isAgg0
 z0:=Tryz.sizeOf0
 v0:=Tryz.zeroValue0
 t3:=Tryz.underlying3
 a3:=Tryz.isAgg3
 z3:=Tryz.sizeOf3
 v3:=Tryz.zeroValue3
 t4:=Tryz.underlying4
 a4:=Tryz.isAgg4
 z4:=Tryz.sizeOf4
 v4:=Tryz.zeroValue4
 t22:=Tryz.underlying23
 a22:=Tryz.isAgg23
 z22:=Tryz.sizeOf23
 v22:=Tryz.zeroValue23
 i3:=by kernel_rfl}
open Go.RowKit Go.Lib Go.Sort in
theorem Tryz.slices_Compact_int (blk off cap:Nat) (zs:List Int) (w:World) (hH:Holds (Value.int .i64) w blk off zs.toArray) (hsz:zs.length≤9223372036854775807) (hcap:zs.length≤cap):
  Calls Tryz.prog 91 #[.slice (some ⟨blk,off,none⟩) zs.length cap] w fun e w'=>e= .returned (.slice (some ⟨blk,off,none⟩) (Lib.compact zs).length cap)∧∃ q,w'=putRow (Value.int .i64) (Sort.ahead w q) blk off (Lib.compact zs++List.replicate (zs.length-(Lib.compact zs).length) 0).toArray:=Any.slices_Compact_int Tryz.laysNm220 blk off cap zs w hH hsz hcap
open Go.RowKit Go.Lib Go.Sort in
theorem Tryz.slices_Compact_int_empty (a:Option Addr) (cap:Nat) (w:World):
  Calls Tryz.prog 91 #[.slice a 0 cap] w fun e w'=>e= .returned (.slice a 0 cap)∧w'=w:=Any.slices_Compact_int_empty Tryz.laysNm220 a cap w
open Go.RowKit Go.Sort in
theorem Tryz.slices_Sort_int_none (p:Option Addr) (cap:Nat) (w:World):
  Calls Tryz.prog 64 #[.slice p 0 cap] w fun e w'=>e= .returned (.tuple #[])∧w'=w:=Any.slices_Sort_int_none Tryz.lays189 p cap w
def Tryz.laysSlF06_f140_ren:Go.Shelf.Ren:=⟨fun | 6=>140 | 15=>108 | 14=>191 | 28=>164 | 29=>165 | 20=>224 | 21=>225 | 22=>226 | 23=>227 | 24=>228 | 25=>229 | 26=>230 | 27=>231 | 46=>246 | 47=>205 | 48=>206 | 49=>247 | 50=>248 | 57=>258 | n=>n,fun | 22=>48 | 24=>54 | 25=>213 | 3=>3 | 39=>186 | 0=>0 | 53=>234 | 55=>236 | 4=>4 | 46=>228 | 45=>227 | 50=>141 | 5=>5 | 9=>9 | 66=>259 | 70=>253 | 76=>278 | 77=>279 | n=>n,fun | n=>n⟩
theorem Tryz.laysSlF06_f140:Go.Proofs.SlLaysF0.n6 Tryz.prog Tryz.laysSlF06_f140_ren:={
 mixed:=by kernel_rfl
 f6:=⟨Tryz.f140.name,by decide,Tryz.func140.trans (congrArg some (by kernel_rfl))⟩
 f14:=⟨Tryz.f191.name,by decide,Tryz.func191.trans (congrArg some (by kernel_rfl))⟩
 f15:=Tryz.func108.trans (congrArg some (by kernel_rfl))
 f20:=⟨Tryz.f224.name,by decide,Tryz.func224.trans (congrArg some (by kernel_rfl))⟩
 f21:=⟨Tryz.f225.name,by decide,Tryz.func225.trans (congrArg some (by kernel_rfl))⟩
 f22:=⟨Tryz.f226.name,by decide,Tryz.func226.trans (congrArg some (by kernel_rfl))⟩
 f23:=⟨Tryz.f227.name,by decide,Tryz.func227.trans (congrArg some (by kernel_rfl))⟩
 f24:=⟨Tryz.f228.name,by decide,Tryz.func228.trans (congrArg some (by kernel_rfl))⟩
 f25:=⟨Tryz.f229.name,by decide,Tryz.func229.trans (congrArg some (by kernel_rfl))⟩
 f26:=⟨Tryz.f230.name,by decide,Tryz.func230.trans (congrArg some (by kernel_rfl))⟩
 f27:=⟨Tryz.f231.name,by decide,Tryz.func231.trans (congrArg some (by kernel_rfl))⟩
 f28:=Tryz.func164.trans (congrArg some (by kernel_rfl))
 f29:=Tryz.func165.trans (congrArg some (by kernel_rfl))
 f46:=⟨Tryz.f246.name,by decide,Tryz.func246.trans (congrArg some (by kernel_rfl))⟩
 f47:=Tryz.func205.trans (congrArg some (by kernel_rfl))
 f48:=Tryz.func206.trans (congrArg some (by kernel_rfl))
 f49:=⟨Tryz.f247.name,by decide,Tryz.func247.trans (congrArg some (by kernel_rfl))⟩
 f50:=⟨Tryz.f248.name,by decide,Tryz.func248.trans (congrArg some (by kernel_rfl))⟩
 f57:=⟨Tryz.f258.name,by decide,Tryz.func258.trans (congrArg some (by kernel_rfl))⟩
 t0:=Tryz.underlying0
 a0:=Tryz.isAgg0
 z0:=Tryz.sizeOf0
 v0:=Tryz.zeroValue0
 t3:=Tryz.underlying3
 a3:=Tryz.isAgg3
 z3:=Tryz.sizeOf3
 v3:=Tryz.zeroValue3
 t4:=Tryz.underlying4
 a4:=Tryz.isAgg4
 z4:=Tryz.sizeOf4
 v4:=Tryz.zeroValue4
 t5:=Tryz.underlying5
 a5:=Tryz.isAgg5
 z5:=Tryz.sizeOf5
 v5:=Tryz.zeroValue5
 t9:=Tryz.underlying9
 a9:=Tryz.isAgg9
 z9:=Tryz.sizeOf9
 v9:=Tryz.zeroValue9
 t22:=Tryz.underlying48
 a22:=Tryz.isAgg48
 z22:=Tryz.sizeOf48
 v22:=Tryz.zeroValue48
 t25:=Tryz.underlying213
 a25:=Tryz.isAgg213
 z25:=Tryz.sizeOf213
 v25:=Tryz.zeroValue213
 t39:=Tryz.underlying186
 a39:=Tryz.isAgg186
 z39:=Tryz.sizeOf186
 v39:=Tryz.zeroValue186
 t45:=Tryz.underlying227
 a45:=Tryz.isAgg227
 z45:=Tryz.sizeOf227
 v45:=Tryz.zeroValue227
 t46:=Tryz.underlying228
 a46:=Tryz.isAgg228
 z46:=Tryz.sizeOf228
 v46:=Tryz.zeroValue228
 t50:=Tryz.underlying141
 a50:=Tryz.isAgg141
 z50:=Tryz.sizeOf141
 v50:=Tryz.zeroValue141
 t53:=Tryz.underlying234
 a53:=Tryz.isAgg234
 z53:=Tryz.sizeOf234
 v53:=Tryz.zeroValue234
 t55:=Tryz.underlying236
 a55:=Tryz.isAgg236
 z55:=Tryz.sizeOf236
 v55:=Tryz.zeroValue236
 t66:=Tryz.underlying259
 a66:=Tryz.isAgg259
 z66:=Tryz.sizeOf259
 v66:=Tryz.zeroValue259
 t70:=Tryz.underlying253
 a70:=Tryz.isAgg253
 z70:=Tryz.sizeOf253
 v70:=Tryz.zeroValue253
 t76:=Tryz.underlying278
 a76:=Tryz.isAgg278
 z76:=Tryz.sizeOf278
 v76:=Tryz.zeroValue278
 t77:=Tryz.underlying279
 a77:=Tryz.isAgg279
 z77:=Tryz.sizeOf279
 v77:=Tryz.zeroValue279}
open Go.RowKit Go.Lib Go.Sort in
theorem Tryz.slices_SortFunc {α:Type} [Inhabited α] (k:Nat) (aE:∀ w,(isAgg (Tryz.laysSlF06_f140_ren.t 24)).run Tryz.prog w= .ok true w) (zE:∀ w,(Go.sizeOf (Tryz.laysSlF06_f140_ren.t 24)).run Tryz.prog w= .ok k w) (enc:α→List Value) (hk:∀ x,(enc x).length=k) (h1:∀ x,∀ v∈enc x,v.oneCell'=true) (cf:α→α→Int) (hO:SWO (ltOf cf)) (g:Nat) (cb:Array Value) (blk off cap:Nat) (d:Array α) (w:World) (eg:∀ args w,(callFunc g args).run Tryz.prog w= .ok (.enter g args) w) (hcmp:CmpLays Tryz.prog g cb enc k cf blk off d.size w) (hH:HoldsK enc k w blk off d) (hblk:blk<w.heap.size) (hsz:d.size<4611686018427387904):
  Calls Tryz.prog 140 #[.slice (some ⟨blk,off,none⟩) d.size cap,.func (.func g) #[] cb] w fun e w'=>
   e= .returned (.tuple #[])∧∃ d' n os,PermIn 0 d.size d d'∧SortedIn (ltOf cf) 0 d.size d'∧w'=sortWorldK enc k w blk off n d' os:=AnyQ.slices_SortFunc Tryz.laysSlF06_f140 k aE zE enc hk h1 cf hO g cb blk off cap d w eg hcmp hH hblk hsz
open Go.RowKit Go.Lib Go.Sort in
theorem Tryz.slices_SortFunc_none {α:Type} [Inhabited α] (p:Option Addr) (cap:Nat) (fv:Value) (w:World):
  Calls Tryz.prog 140 #[.slice p 0 cap,fv] w fun e w'=>e= .returned (.tuple #[])∧w'=w:=AnyF.slices_SortFunc_none Tryz.laysSlF06_f140 p cap fv w
end
end Go.Proofs
namespace Go.Proofs.YtodakphagkommaaGreatDoor
section
open Go Go.Kn Go.Proofs
theorem UU:ElT Tryz.prog 22 23 1 24:=.of (by kernel_rfl)
theorem zj6:Fun Tryz.prog 64:=.of Tryz.func64 (by kernel_rfl) (by kernel_rfl)
theorem zoF:Fun Tryz.prog 91:=.of Tryz.func91 (by kernel_rfl) (by kernel_rfl)
theorem zud:Fun Tryz.prog 92:=.of Tryz.func92 (by kernel_rfl) (by kernel_rfl)
theorem zqT:SzT Tryz.prog 174 1:=.of (by kernel_rfl)
theorem Zm:SzT Tryz.prog 23 1:=.of (by kernel_rfl)
theorem zvj:Yz Tryz.prog 174 .nilFunc:=.of (by kernel_rfl)
theorem YA:Yz Tryz.prog 23 (.slice none 0 0):=.of (by kernel_rfl)
theorem zv8:Yz Tryz.prog 3 (.int .i64 0):=.of (by kernel_rfl)
theorem U3 (zs:List Int):zs.flatMap QP=zs.map (Value.int .i64):=by
 induction zs with
 | nil=>rfl
 | cons z zs ih=>rw [List.flatMap_cons,ih];rfl
theorem zjX {zs:List Int}{v:Value}{n:Nat}{L:Go.Kn.Loc}(hO:OwnS 3 1 v n (zs.flatMap QP) L)(hn:n≤1000000)(I:Qw):Z4 Tryz.prog 64 [v] I L (fun u I' L'=>u= .tuple #[]∧I'=I∧OwnS 3 1 v n ((YJ zs).flatMap QP) L'):=by
 rw [U3] at hO
 rw [U3]
 exact zkj Tryz.slices_Sort_int Tryz.slices_Sort_int_none zs hO hn I
theorem zhj {zs:List Int}{v:Value}{n:Nat}{L:Go.Kn.Loc}(hO:OwnS 3 1 v n (zs.flatMap QP) L)(hn:n≤1000000)(I:Qw):Z4 Tryz.prog 91 [v] I L (fun u I' L'=>I'=I∧OwnS 3 1 u (Lib.compact zs).length ((Lib.compact zs).flatMap QP) L'):=by
 rw [U3] at hO
 rw [U3]
 exact zbn Lib.compact Lib.compact_length_le rfl Tryz.slices_Compact_int Tryz.slices_Compact_int_empty zs hO hn I
theorem zdj {I:Qw}{bst brow bloc bcla bse:Nat}{sv bv av:Option Addr}{ns cs n2 c2 n c:Nat}{St xs:List Int}{rows:List (List Int)}{l:Nat}(hn:n≤100000)(hn2:n2≤100000)(hns:ns≤1000)(hl:∀ r∈rows,l<r.length)(hc:Y8 rows.length xs=0):∀ (f:Nat) (I:Qw),RtE I 93 bst brow bloc bcla bse sv bv av ns cs n2 c2 n c St xs rows l→∀ (s:Int),OkS rows.length xs s→s.toNat≤f→Z4 Tryz.prog 93 ([.int .i64 s]++[Ze bst,Ze brow,Ze bloc,Ze bcla,Ze bse]) I [] (KD 1 QP (rcF St (uF rows l) xs f s))
 | 0,_,_,s,hok,hf=>by have:=hok.1;omega
 | f+1,I,hE,s,hok,hf=>zn3 hE hn hn2 hns hl hc f s hok (fun h=>by omega) fun I' hI s' hok' hlt=>zdj (I:=I') hn hn2 hns hl hc f I' (hE.mono hI) s' hok' (by have:=hok'.1;have:=hok.1;omega)
theorem zqh {I:Qw}{av:Option Addr}{n c:Nat}{xs:List Int}(hS:Sl I 1 QP av n c xs){bv:Option Addr}{n2 c2:Nat}{rows:List (List Int)}(hVn:SlN I bv n2 c2 rows)(hn2:n2≤100000)(hDb:V5 I):Z4 Tryz.prog 51 [.slice bv n2 c2,.slice av n c] I [] (zoz rows xs):=by
 intro g H w hw
 refine qe Tryz.func51 Tryz.ntmps51 hw ?_
 have hIc:=zAl I
 have hlV:=hVn.len
 subst hlV
 have hVn9:=hVn
 obtain ⟨hs,hV⟩:=hVn9
 have hH:=hV.1
 refine zR ?_
 refine Q9 rfl rfl rfl (fun b_2=>?_)
 refine Q9 rfl rfl rfl (fun b_3=>?_)
 refine zA ?_
 refine zA (zN (Qk (zR ?_)))
 refine zV (Qd rfl KB (fun hg=>by exact zAf (zAg rfl))) ?_
 refine zV (Qd rfl QJ (fun hg=>by exact zAg rfl)) ?_
 refine qc (vs:=[_,_]) rfl zud (ztD hS hVn hn2 hDb) ?_
 refine zM ?_
 refine zE ?_
 refine zE ?_
 refine zA ?_
 refine zN (zR ?_)
 refine zM ?_
 refine zC (zN ?_)
 refine zI ?_ ?_<;>intro hc24
 ·
  have hcE:Yk rows xs≠0:=by simpa using hc24
  refine zR (zM ?_)
  refine zA ?_
  refine zA (zN (Qs (Qb ?_)))
  first
  | exact Zr rfl rfl rfl (fun w hw=>⟨_,_,[],rfl,hIc,hw.drop,rfl,none,0,by rw [Wf hcE];rfl,by rw [Wf hcE];exact .none⟩)
 have hcE:Yk rows xs=0:=by simpa using hc24
 have hr0:YX rows=0:=by cases Decidable.em (YX rows=0) with
  | inl h=>exact h
  | inr h=>exact absurd ((zbm h).1.symm.trans hcE) h
 have hc0:Y8 rows.length xs=0:=by have h:=hcE;unfold Yk at h;rw [if_neg (by omega)] at h;exact h
 obtain ⟨hr1,hr6,hr64,hrr⟩:=JE hr0
 obtain ⟨x0,v0,hx0,hv0,hQ0⟩:=hV.at (k:=0) (by omega)
 have hx0l:=hQ0.len
 have hg0:rows.getD 0 []=v0:=QN hv0
 rw [hg0] at hr64 hrr
 have hxl:=(Zy hc0).2.2.1
 have hSl:=hS.len
 have hn:n≤100000:=by omega
 have hsh:=zaa (n:=(rows.length:Int)) ⟨by omega,by omega⟩
 have hal9:=JV (n:=(rows.length:Int)) ⟨by omega,by omega⟩
 refine Qo (Qa (Qk (Qk ?_)))
 refine VN (fun I1 hI1 hall=>?_)
 have hS:=hS.mono hI1;have hVn:=hVn.mono hI1;have hV:=hV.mono hI1;have hH:=hH.mono hI1;have hIc:=hIc.trans hI1
 have hB2:QY I1 [] b_2 0 (.slice bv rows.length c2):=.imm (hall _ _ (by repeat (first | exact List.mem_cons_self .. | apply List.mem_cons_of_mem))) rfl
 have hB3:QY I1 [] b_3 0 (.slice av n c):=.imm (hall _ _ (by repeat (first | exact List.mem_cons_self .. | apply List.mem_cons_of_mem))) rfl
 refine Qf ?_
 refine zV (Qd rfl KB (fun hg=>by exact hB2.any)) ?_
 refine zV (zX Q0 hH) ?_
 refine zV (Qd rfl QJ (fun hg=>by exact zAe hH hx0 rfl)) ?_
 refine zQ Qt ?_
 refine zM (zN (Ql ?_))
 refine zU [(2,_),(3,_),(29,_)] (fun T L0 mz E I' loc'=>∃ (l:Nat) (v4:Value) (os:List Hd) (L:Go.Kn.Loc),mz=x0.n-l∧E=(4,v4)::(30,.int .i64 l)::T∧HLe I1 I'∧L=loc'∧l≤x0.n∧OwnS 23 1 v4 l (os.flatMap WL) L∧zcp I' os ((List.range l).map (Y3 rows xs))) ?_ (h:=⟨0,_,[],[],rfl,rfl,zAl _,rfl,Nat.zero_le _,OwnS.nil,zcp.nil⟩)
 rintro mz E J2 loc' ⟨l,v4,os,L,rfl,rfl,hJ,rfl,hl,hO4,hre⟩
 have hS:=hS.mono hJ;have hVn:=hVn.mono hJ;have hV:=hV.mono hJ;have hH:=hH.mono hJ;have hB2:=hB2.mono hJ;have hB3:=hB3.mono hJ;have hIc:=hIc.trans hJ
 have hB0:=hJ
 obtain ⟨va4,vc4,rfl⟩:=zaS hO4
 refine zR (zC (zN (Qk ?_)))
 refine zI ?_ ?_<;>intro hc31
 ·
  have hlt_l:l<x0.n:=by have h:=hc31;simp at h;omega
  have hsl:=zeY (rows:=rows) (l:=l)
  refine Qo (Qa (Qk (Ql (zR (zM ?_)))))
  refine Qv zv8 rfl rfl (fun b_6=>?_)
  refine zS Yd ?_
  refine zN (zR ?_)
  refine Qp (ps:=[(0,_)]) (m:=[QP (0:Int)]) Za rfl (.cons rfl (.nil)) rfl (by simp [Qu]) (by decide) (by decide) rfl rfl (fun b_33=>?_)
  refine Qv YA rfl rfl (fun b_7=>?_)
  refine zS Zm ?_
  refine zN (Qk (zR ?_))
  refine zV (Qd rfl KB (fun hg=>by exact hB2.any)) ?_
  refine zQ Q0 ?_
  refine zM (zN (Ql ?_))
  refine zU [(2,_),(3,_),(4,_),(6,_),(7,_),(29,_),(30,_),(34,_),(35,_)] (fun T L0 mz E I' loc'=>∃ (i:Nat) (v7:Value) (q7:Nat) (L7:Go.Kn.Loc),mz=rows.length-i∧E=(36,.int .i64 i)::T∧J2=I'∧(b_7,.cells #[v7] 23 (0,0))::(L7++((b_6,.cells #[.int .i64 l] 3 (0,0))::L))=loc'∧i≤rows.length∧OwnS 3 1 v7 q7 ((stL rows l i).flatMap QP) L7∧q7≤i+1) ?_ (h:=⟨0,_,1,[(b_33,_)],rfl,rfl,rfl,rfl,Nat.zero_le _,OwnS.lit rfl (by decide),Nat.le_refl _⟩)
  rintro mz E I' loc' ⟨i,v7,q7,L7,rfl,rfl,rfl,rfl,hi,hO7,hq7⟩
  obtain ⟨va,vc,rfl⟩:=zaS hO7
  refine zR (zC (zN (Qk ?_)))
  refine zI ?_ ?_<;>intro hc37
  ·
   have hlt_i:i<rows.length:=by have h:=hc37;simp at h;omega
   obtain ⟨x,v,hx,hv,hQ⟩:=hV.at hlt_i
   have hlv:l<v.length:=by rw [(hrr v (List.mem_of_getElem? hv)).1];omega
   have hu:=QX (d:=0) rfl hlv
   have hvn:=hQ.len
   have hUF:uF rows l i=v.getD l 0:=by unfold uF;rw [QN hv]
   refine Qo (Qa (Qk (Ql (zR ?_))))
   refine zV (zX Q0 hH) ?_
   refine zV (Qd rfl QJ (fun hg=>by exact zAe hH hx rfl)) ?_
   refine zA ?_
   refine zN (zR ?_)
   refine zM ?_
   refine zV (Qd rfl Qr (fun hg=>by (repeat (first | exact zAg rfl | apply zAf | apply zAh)))) ?_
   refine zV (zX Qt hQ) ?_
   refine zV (Qd rfl Qr (fun hg=>by exact zAe hQ hu rfl)) ?_
   refine zA ?_
   refine zN (zR ?_)
   refine zM ?_
   refine zC (zN ?_)
   refine zI ?_ ?_<;>intro hc45
   ·
    have hne:uF rows l i≠8589934592:=by rw [hUF];simpa using hc45
    refine Qf ?_
    refine zV (Qd rfl QJ (fun hg=>by exact zAg rfl)) ?_
    refine zM ?_
    refine Qp (ps:=[(0,_)]) (m:=[QP (v.getD l 0)]) Za rfl (.cons rfl (.nil)) rfl (by simp [Qu]) (by decide) (by decide) rfl rfl (fun b_48=>?_)
    refine QU (v:=_) (ys:=[v.getD l 0].flatMap QP) (L:=L7) rfl rfl Za hO7 (by repeat (first | exact .cons .here .nil | exact QD | exact Qy | apply QC | apply QB)) ⟨rfl,fun _=>rfl,by repeat (first | exact zAj | apply zAi | apply zAk)⟩ (V0 [v.getD l 0]) (by omega) rfl rfl ?_
    intro v9 L9 hO9 _;rw [←List.flatMap_append] at hO9;obtain ⟨va9,vc9,rfl⟩:=zaS hO9
    refine ZE rfl rfl Zm rfl rfl (by (repeat (first | exact Upd.here | apply Upd.there | apply QM))) rfl ?_
    refine Qc (Qg (Qa (Qf (zB ?_))))
    refine zM (Qc ?_)
    first
    | exact JI _ _ (L9++((b_7,_)::((b_6,_)::L))) ⟨rows.length-(i+1),by omega,i+1,_,q7+1,L9,rfl,rfl,rfl,rfl,by omega,by rw [zwR hne,hUF];exact hO9,by omega⟩ (.cons rfl (.cons rfl (.cons rfl (.cons rfl (.cons rfl (.cons rfl (.cons rfl (.cons rfl (.cons rfl (.cons rfl .nil)))))))))) List.perm_middle.symm (by repeat (first | exact .refl | exact Zg | refine Yu ?_ | refine .drop ?_ | refine Ya ?_))
   have heq:uF rows l i=8589934592:=by rw [hUF];simpa using hc45
   refine Qo (Qg (Qa (Qf (zB ?_))))
   refine zM (Qc ?_)
   first
   | exact zm (h:=⟨rows.length-(i+1),by omega,i+1,_,q7,L7,rfl,rfl,rfl,rfl,by omega,by rw [zzy heq];exact hO7,by omega⟩)
  have hge_i:rows.length≤i:=by have h:=hc37;simp at h;omega
  rw [show i=rows.length by omega] at hO7
  refine QH (Qe (Qe (Qj (Qa (zR ?_)))))
  refine zV (Qd rfl QJ (fun hg=>by exact zAg rfl)) ?_
  refine QA (cap:=[]) (vs:=[_]) rfl rfl zj6 (by repeat (first | exact .cons .here .nil | exact QD | exact Qy | apply QC | apply QB)) (zjX hO7 (by omega) _) rfl rfl ?_
  rintro vv4 I4 L4 hI4 ⟨rfl,rfl,hO5⟩
  have hS:=hS.mono hI4;have hVn:=hVn.mono hI4;have hB2:=hB2.mono hI4;have hB3:=hB3.mono hI4;have hre:=hre.mono hI4;have hB0:=hB0.trans hI4
  refine zN (zR ?_)
  refine zV (Qd rfl QJ (fun hg=>by (repeat (first | exact zAg rfl | apply zAf | apply zAh)))) ?_
  refine QA (cap:=[]) (vs:=[_]) rfl rfl zoF (by repeat (first | exact .cons .here .nil | exact QD | exact Qy | apply QC | apply QB)) (zhj hO5 (by omega) _) rfl rfl ?_
  rintro vv5 I5 L5 hI5 ⟨rfl,hO6⟩
  have hS:=hS.mono hI5;have hVn:=hVn.mono hI5;have hB2:=hB2.mono hI5;have hB3:=hB3.mono hI5;have hre:=hre.mono hI5;have hB0:=hB0.trans hI5
  have hO6:OwnS 3 1 _ (stE rows l).length ((stE rows l).flatMap QP) _:=hO6
  obtain ⟨va6,vc6,rfl⟩:=zaS hO6
  refine ZE rfl rfl Zm rfl rfl (by (repeat (first | exact Upd.here | apply Upd.there | apply QM))) rfl ?_
  refine zN (zR ?_)
  refine Qv zvj rfl rfl (fun b_11=>?_)
  refine zN (zR ?_)
  refine zV (Zf (us:=[]) (vs:=[_,_,_,_,_]) rfl rfl) ?_
  refine zS zqT ?_
  refine zN (Qk ?_)
  refine Vn hO6 Qu (by decide) (by repeat (first | exact .cons .here .nil | exact QD | exact Qy | apply QC | apply QB)) (fun I6 hI6 af6 cf6 ef6 hT9=>?_)
  cases ef6
  have hS:=hS.mono hI6;have hVn:=hVn.mono hI6;have hB2:=hB2.mono hI6;have hB3:=hB3.mono hI6;have hre:=hre.mono hI6;have hB0:=hB0.trans hI6
  refine Zn (b:=b_11) (by repeat (first | exact Zc.here | apply Zc.there)) (fun I7 hI7 hb7=>?_)
  have hS:=hS.mono hI7;have hVn:=hVn.mono hI7;have hB2:=hB2.mono hI7;have hB3:=hB3.mono hI7;have hre:=hre.mono hI7;have hT9:=hT9.mono hI7;have hB0:=hB0.trans hI7
  have hC11:QY I7 [] b_11 0 (.func (.func 93) #[] #[Ze b_7,Ze b_2,Ze b_6,Ze b_3,Ze b_11]):=.imm hb7 rfl
  refine Zn (b:=b_7) (by repeat (first | exact Zc.here | apply Zc.there)) (fun I8 hI8 hb8=>?_)
  have hS:=hS.mono hI8;have hVn:=hVn.mono hI8;have hB2:=hB2.mono hI8;have hB3:=hB3.mono hI8;have hre:=hre.mono hI8;have hT9:=hT9.mono hI8;have hC11:=hC11.mono hI8;have hB0:=hB0.trans hI8
  have hC7:QY I8 [] b_7 0 (.slice va6 (stE rows l).length vc6):=.imm hb8 rfl
  refine Zn (b:=b_6) (by repeat (first | exact Zc.here | apply Zc.there)) (fun I9 hI9 hb9=>?_)
  have hS:=hS.mono hI9;have hVn:=hVn.mono hI9;have hB2:=hB2.mono hI9;have hB3:=hB3.mono hI9;have hre:=hre.mono hI9;have hT9:=hT9.mono hI9;have hC11:=hC11.mono hI9;have hC7:=hC7.mono hI9;have hB0:=hB0.trans hI9
  have hC6:QY I9 [] b_6 0 (.int .i64 l):=.imm hb9 rfl
  have hRE:RtE I9 93 b_7 b_2 b_6 b_3 b_11 va6 bv av (stE rows l).length vc6 rows.length c2 n c (stE rows l) xs rows l:=⟨hC7,hB2,hC6,hB3,hC11,hT9,hS,hVn⟩
  have hD:=zAl I9
  refine K5 mixed ?_
  refine zT 0 rfl (Qd rfl zkW (fun hg=>by exact hC11.any)) hD ?_
  refine zT 1 rfl (Qd rfl KB (fun hg=>by exact hB2.any)) hD ?_
  refine zT 2 rfl (ZB rfl Q0) hD ?_
  refine zT 3 rfl (K6 rfl rfl (fun hg=>by omega)) hD ?_
  refine zT 4 rfl (ZA rfl rfl rfl (fun hg=>by omega)) hD ?_
  refine qd 5 rfl ?_
  refine QA (cap:=[Ze b_7,Ze b_2,Ze b_6,Ze b_3,Ze b_11]) (vs:=[_]) rfl rfl zow (by exact .nil) (zdj (I:=I9) hn hn2 (by omega) (fun r hr=>by rw [(hrr r hr).1];omega) hc0 64 I9 hRE (ZK rows.length) (Xi hc0) (by omega)) rfl rfl ?_
  rintro vv10 I10 L10 hI10 ⟨rfl,aA,cA,rfl,hAll⟩
  have hre:=hre.mono hI10;have hT9:=hT9.mono hI10;have hC7:=hC7.mono hI10;have hB0:=hB0.trans hI10;have hD:=hD.trans hI10
  have htl:(rcF (stE rows l) (uF rows l) xs 64 (ZK rows.length)).length=(stE rows l).length:=ziR
  have hsp:=zjM (rows:=rows) (l:=l)
  have hMin:=zvd (xs:=zgt rows xs l) hAll (by omega) (by omega)
  refine Qc ?_
  refine zD hD ?_
  refine zT 6 rfl (ZM rfl) hD ?_
  refine QK (by kernel_rfl) ?_
  refine QW ?_
  refine Qa (zR (zM ?_))
  refine qc (vs:=[_]) rfl zoV (hMin) ?_
  refine zA ?_
  refine zN (zR ?_)
  refine zA (zN (Qk (zR ?_)))
  refine zV (Qd rfl QJ (fun hg=>by exact hC7.any)) ?_
  refine zQ Qt ?_
  refine zM (zN (Ql ?_))
  refine zU [(2,_),(3,_),(4,_),(12,_),(13,_),(29,_),(30,_),(64,_),(65,_)] (fun T L0 mz E I' loc'=>∃ (i:Nat) (v14:Value) (q14:Nat) (L14:Go.Kn.Loc),mz=(stE rows l).length-i∧E=(14,v14)::(66,.int .i64 i)::T∧I10=I'∧L14++L=loc'∧i≤(stE rows l).length∧OwnS 3 1 v14 q14 ((((stE rows l).take i).filter fun x=>zmT rows xs l x==ZP (zgt rows xs l)).flatMap QP) L14∧q14≤i) ?_ (h:=⟨0,_,0,[],rfl,rfl,rfl,rfl,Nat.zero_le _,OwnS.nil,Nat.le_refl _⟩)
  rintro mz E I' loc' ⟨i,v14,q14,L14,rfl,rfl,rfl,rfl,hi,hO14,hq14⟩
  refine zR (zC (zN (Qk ?_)))
  refine zI ?_ ?_<;>intro hc67
  ·
   have hlt_i:i<(stE rows l).length:=by have h:=hc67;simp at h;omega
   obtain ⟨y,hst⟩:=hT9.at hlt_i
   have hax:(zgt rows xs l)[i]? =some (zmT rows xs l y):=by rw [X8,List.getElem?_map,hst];rfl
   refine Qo (Qa (Qk (Ql (zR (zM ?_)))))
   refine zV (zX Qt hT9) ?_
   refine zV (Qd rfl Qr (fun hg=>by exact zAe hT9 hst rfl)) ?_
   refine zA ?_
   refine zA ?_
   refine zN (zR ?_)
   refine zM ?_
   refine zM ?_
   refine zV (zX Qt hAll) ?_
   refine zV (Qd rfl Qr (fun hg=>by exact zAe hAll hax rfl)) ?_
   refine zM ?_
   refine zC (zN ?_)
   refine zI ?_ ?_<;>intro hc76
   ·
    have hbf:(zmT rows xs l y==ZP (zgt rows xs l))=true:=hc76
    refine Qf (zM ?_)
    refine zM ?_
    refine Qp (ps:=[(0,_)]) (m:=[QP y]) Za rfl (.cons rfl (.nil)) rfl (by simp [Qu]) (by decide) (by decide) rfl rfl (fun b_79=>?_)
    refine QU (v:=_) (ys:=[y].flatMap QP) (L:=L14) rfl rfl Za hO14 (by repeat (first | exact .cons .here .nil | exact QD | exact Qy | apply QC | apply QB)) ⟨rfl,fun _=>rfl,by repeat (first | exact zAj | apply zAi | apply zAk)⟩ (V0 [y]) (by omega) rfl rfl ?_
    intro v9 L9 hO9 _;rw [←List.flatMap_append] at hO9
    refine zA (Qc (Qg (Qa (Qf ?_))))
    refine zB ?_
    refine zM (Qc ?_)
    first
    | exact zm (h:=⟨(stE rows l).length-(i+1),by omega,i+1,_,_,_,rfl,rfl,rfl,rfl,by omega,by rw [znK hst hbf];exact hO9,by omega⟩)
   have hbf:(zmT rows xs l y==ZP (zgt rows xs l))=false:=hc76
   refine Qo (Qg (Qa (Qf (zB ?_))))
   refine zM (Qc ?_)
   first
   | exact zm (h:=⟨(stE rows l).length-(i+1),by omega,i+1,_,_,_,rfl,rfl,rfl,rfl,by omega,by rw [zqM hst hbf];exact hO14,by omega⟩)
  have hge_i:(stE rows l).length≤i:=by have h:=hc67;simp at h;omega
  rw [List.take_of_length_le hge_i] at hO14
  obtain ⟨va14,vc14,rfl⟩:=zaS hO14
  have hrf:(stE rows l).filter (fun x=>zmT rows xs l x==ZP (zgt rows xs l))=Y3 rows xs l:=rfl
  have hq9:q14=(Y3 rows xs l).length:=by have h1:=hO14.1;rw [ZD Qu,hrf] at h1;omega
  subst hq9
  refine QH (Qe (Qe (Qj (Qa ?_))))
  refine Vn hO14 Qu (by decide) (by repeat (first | exact .cons .here .nil | exact QD | exact Qy | apply QC | apply QB)) (fun I12 hI12 af12 cf12 ef12 hR14=>?_)
  cases ef12
  have hre:=hre.mono hI12;have hB0:=hB0.trans hI12
  refine Qf (zM ?_)
  refine zM ?_
  refine Qp (ps:=[(0,_)]) (m:=[WL ⟨va14,(Y3 rows xs l).length,vc14⟩]) UU rfl (.cons rfl (.nil)) rfl (by simp [Zb]) (by decide) (by decide) rfl rfl (fun b_84=>?_)
  refine QU (v:=_) (ys:=[(⟨va14,(Y3 rows xs l).length,vc14⟩:Hd)].flatMap WL) (L:=L) rfl rfl UU hO4 (by repeat (first | exact .cons .here .nil | exact QD | exact Qy | apply QC | apply QB)) ⟨rfl,fun _=>rfl,by repeat (first | exact zAj | apply zAi | apply zAk)⟩ (zqD _) (by omega) rfl rfl ?_
  intro v8 L8 hO8 _;rw [←List.flatMap_append] at hO8
  refine zA (Qc (Qg (Qa (Qf ?_))))
  refine zB ?_
  refine zM (Qc ?_)
  exact zm (h:=⟨x0.n-(l+1),by omega,l+1,_,_,_,rfl,rfl,hB0,rfl,by omega,hO8,by rw [KN];exact hre.snoc (hd:=⟨va14,(Y3 rows xs l).length,vc14⟩) (by rw [←hrf];exact hR14)⟩)
 have hge_l:l=x0.n:=by have h:=hc31;simp at h;omega
 refine QH (Qe (Qe (Qj (Qa (zR (zM ?_))))))
 refine zA ?_
 refine zA (zN (Qs ?_))
 first
 | exact Zr rfl rfl rfl (fun w hw=>by obtain ⟨I9,av9,c9,h1',h2',e9,h4'⟩:=OwnS.freeze (R:=[]) hO4 Zb (by decide) (by rw [List.append_nil];exact hw);cases e9;exact ⟨_,I9,[],rfl,hIc.trans h1',h2',rfl,va4,vc4,by rw [Uh hcE,List.length_map,List.length_range,hg0,hx0l,hcE,←hge_l],by rw [Uh hcE,List.length_map,List.length_range,hg0,hx0l,←hge_l];exact ⟨os,h4',hre.mono h1'⟩⟩)
end
section
open Go Go.Kn Go.Proofs
def Low (a b:Int):Prop:=a<1048576∨b<1048576→a=b
def blN (S:List Int)(f:Int→Int)(x:Int):Int:=(S.map fun y=>ZZ x y+f y).foldl JQ 1073741824
theorem zvr {S:List Int}{f:Int→Int}{x y:Int}(h:y∈S):blN S f x≤ZZ x y+f y:=(VU _ _).1 _ (List.mem_map.2 ⟨y,h,rfl⟩)
theorem zoA {S:List Int}{f:Int→Int}{x:Int}:blN S f x=1073741824∨∃ y∈S,blN S f x=ZZ x y+f y:=by
 rcases (VU (S.map fun y=>ZZ x y+f y) 1073741824).2.2 with e | e
 ·
  exact .inl e
 ·
  obtain ⟨y,hy,e2⟩:=List.mem_map.1 e
  exact .inr ⟨y,hy,e2.symm⟩
theorem zo8 {S:List Int}{f f':Int→Int}{x:Int}(h:∀ y∈S,Low (f y) (f' y)):Low (bl S f x) (blN S f' x):=by
 intro hl
 have key1:bl S f x<1048576→blN S f' x≤bl S f x:=fun h1=>by
  rcases zsU (S:=S) (f:=f) (x:=x) with e | ⟨y,hy,e⟩
  ·
   omega
  ·
   have s:=(YW x y).1
   have:=h y hy (.inl (by omega))
   have:=zvr (f:=f') (x:=x) hy
   omega
 have key2:blN S f' x<1048576→bl S f x≤blN S f' x:=fun h1=>by
  rcases zoA (S:=S) (f:=f') (x:=x) with e | ⟨y,hy,e⟩
  ·
   omega
  ·
   have s:=(YW x y).1
   have:=h y hy (.inr (by omega))
   have:=zeG (f:=f) (x:=x) hy
   omega
 rcases hl with hl | hl
 ·
  have a:=key1 hl
  have b:=key2 (by omega)
  omega
 ·
  have a:=key2 hl
  have b:=key1 (by omega)
  omega
def cN (S:List Int)(u:Nat→Int):Tr→Int→Int
 | .leaf w,x=>Uz (u w) x
 | .node a b,x=>blN S (cN S u a) x+blN S (cN S u b) x
theorem zgB {S:List Int}{f:Int→Int}{x:Int}(h:∀ y∈S,0≤f y):0≤blN S f x:=by
 rcases zoA (S:=S) (f:=f) (x:=x) with e | ⟨y,hy,e⟩
 ·
  omega
 ·
  have:=h y hy
  have:=(YW x y).1
  omega
theorem zn9 {S:List Int}{u:Nat→Int}:∀ (T:Tr) (x:Int),0≤cN S u T x
 | .leaf w,x=>by unfold cN Uz;split<;>omega
 | .node a b,x=>by
  unfold cN
  have h1:=zgB (x:=x) fun y (_:y∈S)=>zn9 (S:=S) (u:=u) a y
  have h2:=zgB (x:=x) fun y (_:y∈S)=>zn9 (S:=S) (u:=u) b y
  omega
theorem zp8 {S:List Int}{u:Nat→Int}:∀ (T:Tr) (x:Int),Low (cT S u T x) (cN S u T x)
 | .leaf w,x=>by
  intro h
  unfold cT cN Yn Uz at*
  by_cases e1:u w=8589934592
  ·
   simp [e1]
  ·
   by_cases e2:u w=x
   ·
    simp [e2]
   ·
    simp [e1,e2] at h
 | .node a b,x=>by
  intro h
  have la:=zo8 (S:=S) (x:=x) fun y _=>zp8 (S:=S) (u:=u) a y
  have lb:=zo8 (S:=S) (x:=x) fun y _=>zp8 (S:=S) (u:=u) b y
  have n1:=zhd (x:=x) fun y (_:y∈S)=>zhf (S:=S) (u:=u) a y
  have n2:=zhd (x:=x) fun y (_:y∈S)=>zhf (S:=S) (u:=u) b y
  have n3:=zgB (x:=x) fun y (_:y∈S)=>zn9 (S:=S) (u:=u) a y
  have n4:=zgB (x:=x) fun y (_:y∈S)=>zn9 (S:=S) (u:=u) b y
  unfold cT cN at h ⊢
  rcases h with h | h
  ·
   rw [la (.inl (by omega)),lb (.inl (by omega))]
  ·
   rw [la (.inr (by omega)),lb (.inr (by omega))]
theorem zdw {S:List Int}{f:Int→Int}{x:Int}:Wy S (S.map f) x=blN S f x:=by
 unfold Wy zg8 blN
 have:∀ k,k≤S.length→(List.range k).foldl (fun b j=>JQ b (ZZ x (S.getD j 0)+(S.map f).getD j 0)) 1073741824=((S.take k).map fun y=>ZZ x y+f y).foldl JQ 1073741824:=by
  intro k
  induction k with
  | zero=>intro _;simp
  | succ k ih=>
   intro hk
   have hx:S[k]? =some (S[k]'(by omega)):=List.getElem?_eq_getElem _
   have hm:(S.map f)[k]? =some (f (S[k]'(by omega))):=by rw [List.getElem?_map,hx];rfl
   rw [List.range_succ,List.foldl_append,ih (by omega),Wd hx,List.foldl_append,List.foldl_cons,List.foldl_nil,List.foldl_cons,List.foldl_nil,QN hx,QN hm]
 have h:=this S.length (Nat.le_refl _)
 rw [List.take_length] at h
 exact h
theorem zcr {S:List Int}{u:Nat→Int}{cl:List Int}{n:Nat}(hc:Y8 n cl=0):∀ (f:Nat) (s:Int),s.toNat≤f→OkS n cl s→rcF S u cl f s=S.map (cN S u (Kl cl f s))
 | 0,s,hf,h=>by have:=h.1;omega
 | f+1,s,hf,h=>by
  have hle:=zbJ hc h
  cases h1:ZN s with
  | true=>rw [zxv h1,ze1 h1];rfl
  | false=>
   obtain ⟨hin,o1,o2,o3,o4,o5,_⟩:=YT hc h h1
   rw [zxJ h1,zeI h1,zcr hc f _ (by omega) o1,zcr hc f _ (by omega) o2]
   refine List.map_congr_left fun x _=>?_
   unfold Uv
   rw [zdw,zdw];rfl
end
section
open Go Go.Kn Go.Proofs
theorem zwk {rows:List (List Int)}{l:Nat}{u:Nat→Int}(T:Tr)(x:Int):cT (stE rows l) u T x=cT (QF rows l) u T x:=zcy (fun _=>KV) T x fun _ _=>rfl
theorem zu3 {rows:List (List Int)}{cl:List Int}{l:Nat}(hc:Y8 rows.length cl=0){x:Int}(hx:x∈stE rows l):zmT rows cl l x=cN (stE rows l) (uF rows l) (Kl cl 64 (ZK rows.length)) x:=by
 obtain ⟨n1,n6,_⟩:=Zy hc
 have hal:=JV (n:=(rows.length:Int)) ⟨n1,n6⟩
 have h:=X8 (rows:=rows) (cl:=cl) (l:=l)
 unfold zgt at h
 rw [zcr hc 64 _ (by omega) (Xi hc)] at h
 exact (List.map_inj_left.1 h x hx).symm
theorem zn7 {rows:List (List Int)}{cl:List Int}{l:Nat}(hr:YX rows=0)(hc:Y8 rows.length cl=0){x:Int}:x∈Y3 rows cl l↔x∈QF rows l∧cT (QF rows l) (uF rows l) (Kl cl 64 (ZK rows.length)) x=mn (QF rows l) (cT (QF rows l) (uF rows l) (Kl cl 64 (ZK rows.length))):=by
 obtain ⟨n1,n6,_⟩:=JE hr
 have hal:=JV (n:=(rows.length:Int)) ⟨by omega,by omega⟩
 obtain ⟨t1,_,_⟩:=zco hc 64 (ZK rows.length) (by omega) (Xi hc)
 have ht:zgt rows cl l=(stE rows l).map (cN (stE rows l) (uF rows l) (Kl cl 64 (ZK rows.length))):=zcr hc 64 _ (by omega) (Xi hc)
 have htop:=fun (x:Int) (hx:x∈stE rows l)=>zu3 (cl:=cl) hc hx
 generalize Kl cl 64 (ZK rows.length)=T at t1 ht htop
 have h0:(0:Int)∈QF rows l:=zbj.2 (.inl rfl)
 obtain ⟨_,_,m4⟩:=zuG (u:=uF rows l) n6 h0 t1 fun w hw=>zx9 (rows:=rows) (l:=l) hw
 have hne:QF rows l≠[]:=List.ne_nil_of_mem h0
 have hne':stE rows l≠[]:=List.ne_nil_of_mem (KV.2 h0)
 have low:=fun x=>zp8 (S:=stE rows l) (u:=uF rows l) T x
 have e:=fun x=>zwk (rows:=rows) (l:=l) (u:=uF rows l) T x
 have hb:ZP (zgt rows cl l)=mn (QF rows l) (cT (QF rows l) (uF rows l) T):=by
  rw [ht]
  show mn (stE rows l) (cN (stE rows l) (uF rows l) T)=_
  obtain ⟨y,hy,ey⟩:=zsr (f:=cT (QF rows l) (uF rows l) T) hne
  obtain ⟨z,hz,ez⟩:=zsr (f:=cN (stE rows l) (uF rows l) T) hne'
  have a1:=low y (.inl (by rw [e];omega))
  have a2:=zny (f:=cN (stE rows l) (uF rows l) T) (KV.2 hy)
  rw [←a1,e,←ey] at a2
  have b1:=low z (.inr (by omega))
  have b2:=zny (f:=cT (QF rows l) (uF rows l) T) (KV.1 hz)
  rw [←e,b1,←ez] at b2
  omega
 unfold Y3
 rw [List.mem_filter,beq_iff_eq,hb,KV]
 constructor
 ·
  rintro ⟨h1,h2⟩
  refine ⟨h1,?_⟩
  rw [htop x (KV.2 h1)] at h2
  rw [←e,low x (.inr (by omega)),h2]
 ·
  rintro ⟨h1,h2⟩
  refine ⟨h1,?_⟩
  rw [htop x (KV.2 h1),←low x (.inl (by rw [e];omega)),e,h2]
theorem zqS {rows:List (List Int)}{cl:List Int}{l:Nat}:(Y3 rows cl l).Pairwise (· < ·):=zpR.filter _
end
section
open Go Go.Kn Go.Proofs
theorem zvD:Fun Tryz.prog 62:=.of Tryz.func62 (by kernel_rfl) (by kernel_rfl)
theorem Vu:SlT Tryz.prog 24 67 3:=.of (by kernel_rfl)
theorem zrI {I:Qw}{bv:Option Addr}{n2 c2:Nat}{rows:List (List Int)}(hV:SlN I bv n2 c2 rows)(av:Option Addr)(n c:Nat)(ev:Option Addr)(n4 c4:Nat):Zu Tryz.prog 29 [.slice bv n2 c2,.slice av n c,.slice ev n4 c4] I (.bool (zlO rows&&decide ((n:Int)≤40)&&decide ((n4:Int)≤40))):=by
 intro g H w hw
 refine qe Tryz.func29 Tryz.ntmps29 hw ?_
 refine zR (zA ?_)
 refine zN (zR ?_)
 refine zM ?_
 refine qc (vs:=[_]) rfl zvD (zx8 hV) ?_
 refine zA ?_
 refine zN (zR ?_)
 refine zM ?_
 refine zM ?_
 refine QG 1 rfl rfl rfl ?_
 refine zK (Qh rfl) ?_
 refine zK (ZB rfl Qt) ?_
 refine zK (QI rfl rfl rfl) ?_
 refine QL rfl rfl rfl rfl rfl ?_
 refine zM ?_
 refine QG 6 rfl rfl rfl ?_
 refine zK (Qh rfl) ?_
 refine zK (ZB rfl Vu) ?_
 refine zK (QI rfl rfl rfl) ?_
 refine QL rfl rfl rfl rfl rfl ?_
 refine zA (zN (Qs ?_))
 exact zr rfl rfl (by cases zlO rows<;>cases decide ((n:Int)≤40)<;>rfl)
end
section
open Go Go.Kn Go.Proofs
structure Dg where
 n:Int
 lo:Int
 hi:Int
 b:Int
def zjn (d:Dg):List Value:=[.int .i64 d.n,.int .i64 d.lo,.int .i64 d.hi,.int .i64 d.b]
theorem zgC (d:Dg):(zjn d).length=4:=rfl
def zcO (d:Dg):Bool:=decide (d.n<d.lo)||decide (d.n>d.hi)
def zlG (c:Int)(d:Dg):Int:=orI (IntKind.i64.wrap (c*2^(min d.b.toNat IntKind.i64.bits))) d.n
def Y2 (c:Int):List Dg→Option Int
 | []=>some c
 | d::ds=>if zcO d=true then none else Y2 (zlG c d) ds
theorem zn4 {c:Int}{ds:List Dg}{k:Nat}{d:Dg}(h:ds[k]? =some d)(hb:zcO d=true):Y2 c (ds.drop k)=none:=by
 rw [Z5 h];unfold Y2;rw [if_pos hb]
theorem zjP {c:Int}{ds:List Dg}{k:Nat}{d:Dg}(h:ds[k]? =some d)(hb:zcO d=false):Y2 c (ds.drop k)=Y2 (zlG c d) (ds.drop (k+1)):=by
 rw [Z5 h]
 show (if zcO d=true then none else Y2 (zlG c d) (ds.drop (k+1)))=_
 rw [if_neg (by rw [hb];decide)]
theorem zmD {c:Int}{ds:List Dg}{k:Nat}(h:ds.length≤k):Y2 c (ds.drop k)=some c:=by rw [List.drop_eq_nil_of_le h];rfl
end
section
open Go Go.Kn Go.Proofs
theorem ztA:AgT Tryz.prog 165 4:=.of (by kernel_rfl)
theorem zax:Q3 Tryz.prog 165 0 0:=.of (by kernel_rfl)
theorem zkr:Q3 Tryz.prog 165 1 1:=.of (by kernel_rfl)
theorem zjt:Q3 Tryz.prog 165 2 2:=.of (by kernel_rfl)
theorem zkf:Q3 Tryz.prog 165 3 3:=.of (by kernel_rfl)
theorem ziW:SlT Tryz.prog 218 165 4:=.of (by kernel_rfl)
theorem zqy:SzT Tryz.prog 165 4:=.of (by kernel_rfl)
theorem zvG:Yz Tryz.prog 165 (.agg #[(.int .i64 0),(.int .i64 0),(.int .i64 0),(.int .i64 0)]):=.of (by kernel_rfl)
theorem zxH {I:Qw}{av:Option Addr}{n c:Nat}{ds:List Dg}(hS:Sl I 4 zjn av n c ds)(hn:n≤100000)(hb:∀ d∈ds,0≤d.b):Zu Tryz.prog 85 [.slice av n c] I (.tuple #[.int .i64 ((Y2 0 ds).getD 0),.bool (Y2 0 ds).isSome]):=by
 intro g H w hw
 refine qe Tryz.func85 Tryz.ntmps85 hw ?_
 refine zR (zA ?_)
 refine zA (zN (Qk (zR ?_)))
 refine zM ?_
 refine zQ ziW ?_
 refine zM (zN (Ql ?_))
 refine zU [(6,_),(7,_)] (fun T L0 mz E I' loc'=>∃ (k:Nat) (a:Int),mz=n-k∧E=(2,.int .i64 a)::(8,.int .i64 k)::T∧I=I'∧[]=loc'∧k≤n∧Y2 0 ds=Y2 a (ds.drop k)) ?_ (h:=⟨0,0,rfl,rfl,rfl,rfl,Nat.zero_le _,rfl⟩)
 rintro mz E I' loc' ⟨k,a,rfl,rfl,rfl,rfl,hk,hpk⟩
 refine zR (zC (zN (Qk ?_)))
 refine zI ?_ ?_<;>intro hc9
 ·
  have hlt_k:k<n:=by have h:=hc9;simp at h;omega
  obtain ⟨d,hd⟩:=hS.at hlt_k
  have hbd:=hb d (List.mem_of_getElem? hd)
  refine Qo (Qa (Qk (Ql (zR ?_))))
  refine zV (zX ziW hS) ?_
  refine zV (Qq rfl ztA (fun hg=>by exact zAm hS hd) rfl) ?_
  refine Qv zvG rfl rfl (fun b_5=>?_)
  refine zh zqy ?_
  refine zN (Qk (zR ?_))
  refine zF zax ?_
  refine zL Qr ?_
  refine zF zkr ?_
  refine zL Qr ?_
  refine zC ?_
  refine zM ?_
  refine QV 5 rfl rfl rfl ?_
  refine zJ (Qi rfl zax) ?_
  refine zJ (Qd rfl Qr (fun hg=>by exact QY.h0 rfl)) ?_
  refine zJ (Qi rfl zjt) ?_
  refine zJ (Qd rfl Qr (fun hg=>by exact QY.h0 rfl)) ?_
  refine zJ (QI rfl rfl rfl) ?_
  refine Zs rfl rfl rfl rfl rfl ?_
  refine zN ?_
  refine zI ?_ ?_<;>intro hc23
  ·
   rw [zn4 hd hc23] at hpk
   refine zR (zA ?_)
   refine zA (zN (Qs (Qb (Qm (Qb (Qb (Qm ?_)))))))
   refine Qb ?_
   first
   | exact Zr rfl rfl rfl (fun w hw=>⟨by rw [hpk];rfl,hw.drop⟩)
  refine Qo (Qa ?_)
  refine Yq mixed (by kernel_rfl) ?_
  refine zq (Qh rfl) ?_
  refine zq (Qi rfl zkf) ?_
  refine zq (Qd rfl Qr (fun hg=>by exact QY.h0 rfl)) ?_
  refine zq (K6 rfl rfl (fun hg=>by exact hbd)) ?_
  refine zq (Qi rfl zax) ?_
  refine zq (Qd rfl Qr (fun hg=>by exact QY.h0 rfl)) ?_
  refine zq (zzd rfl rfl) ?_
  refine zq (ZM rfl) ?_
  refine Yp ?_
  refine Qg (Qa (Qf (zB ?_)))
  refine zM (Qc ?_)
  exact zm (h:=⟨n-(k+1),by omega,k+1,zlG a d,rfl,rfl,rfl,rfl,by omega,by rw [hpk,zjP hd hc23]⟩)
 have hge_k:n≤k:=by have h:=hc9;simp at h;omega
 rw [zmD (by rw [hS.len];exact hge_k)] at hpk
 refine QH (Qe (Qe (Qj (Qa (zR (zM ?_))))))
 refine zA ?_
 refine zA (zN (Qs ?_))
 first
 | exact Zr rfl rfl rfl (fun w hw=>⟨by rw [hpk];rfl,hw.drop⟩)
end
section
open Go Go.Kn Go.Proofs
structure Sg where
 id:Int
 role:Int
 bar:Int
 mark:Int
 kind:Int
 side:Int
 dir:Int
 level:Int
 size:Int
 wth:Int
 fn:Int
 fd:Int
 tn:Int
 td:Int
def Vy (x:Sg):List Value:=[.int .i64 x.id,.int .i64 x.role,.int .i64 x.bar,.int .i64 x.mark,.int .i64 x.kind,.int .i64 x.side,.int .i64 x.dir,.int .i64 x.level,.int .i64 x.size,.int .i64 x.wth,.int .i64 x.fn,.int .i64 x.fd,.int .i64 x.tn,.int .i64 x.td]
def J0 (x:Sg):Value:=.agg (Vy x).toArray
theorem Z8 (x:Sg):(Vy x).length=14:=rfl
def dgs (x:Sg):List Dg:=[⟨x.role,0,63,6⟩,⟨x.kind,1,9,4⟩,⟨x.side,0,2,2⟩,⟨x.dir,0,8,4⟩,⟨x.level,0,3,2⟩,⟨x.size,0,255,8⟩,⟨x.wth,0,64,7⟩]
theorem zy5 (x:Sg):∀ d∈dgs x,0≤d.b:=fun d h=>by
 unfold dgs at h
 simp only [List.mem_cons,List.not_mem_nil,or_false] at h
 rcases h with rfl | rfl | rfl | rfl | rfl | rfl | rfl<;>simp
def zay (x:Sg):Int:=(Y2 0 (dgs x)).getD 0
def JM (x:Sg):Int:=if (Y2 0 (dgs x)).isSome=true then 0 else 410
theorem zkZ {x:Sg}(h:(Y2 0 (dgs x)).isSome=false):zay x=0∧JM x=410:=by
 have:Y2 0 (dgs x)=none:=by cases hp:Y2 0 (dgs x) with
  | none=>rfl
  | some c=>rw [hp] at h;cases h
 unfold zay JM
 rw [this];exact ⟨rfl,rfl⟩
theorem znR {x:Sg}(h:(Y2 0 (dgs x)).isSome=true):JM x=0:=by unfold JM;rw [if_pos h]
end
section
open Go Go.Kn Go.Proofs
theorem zro:ElT Tryz.prog 218 165 4 32:=.of (by kernel_rfl)
theorem Jm:Q3 Tryz.prog 54 1 1:=.of (by kernel_rfl)
theorem Ub:Q3 Tryz.prog 54 4 4:=.of (by kernel_rfl)
theorem Jq:Q3 Tryz.prog 54 5 5:=.of (by kernel_rfl)
theorem Jh:Q3 Tryz.prog 54 6 6:=.of (by kernel_rfl)
theorem Ju:Q3 Tryz.prog 54 7 7:=.of (by kernel_rfl)
theorem Jk:Q3 Tryz.prog 54 8 8:=.of (by kernel_rfl)
theorem Jg:Q3 Tryz.prog 54 9 9:=.of (by kernel_rfl)
theorem zwb:Fun Tryz.prog 85:=.of Tryz.func85 (by kernel_rfl) (by kernel_rfl)
theorem UB:PlT Tryz.prog 165 #[(0,1),(1,1),(2,1),(3,1)] (.agg #[(.int .i64 0),(.int .i64 0),(.int .i64 0),(.int .i64 0)]):=⟨.of (by kernel_rfl),by kernel_rfl,fun w=>by kernel_rfl⟩
theorem zoD (I:Qw)(x:Sg):Zu Tryz.prog 47 [J0 x] I (.tuple #[.int .i64 (zay x),.int .i64 (JM x)]):=by
 intro g H w hw
 refine qe Tryz.func47 Tryz.ntmps47 hw ?_
 have hIc:=zAl I
 refine zR ?_
 refine Q9 rfl rfl rfl (fun b_1=>?_)
 refine zA ?_
 refine zA ?_
 refine zN (zR ?_)
 refine zF Jm ?_
 refine zL Qr ?_
 refine zV (QQ (ps:=[(0,_),(1,_),(2,_),(3,_)]) [_,_,_,_] UB rfl rfl) ?_
 refine zF Ub ?_
 refine zL Qr ?_
 refine zV (QQ (ps:=[(0,_),(1,_),(2,_),(3,_)]) [_,_,_,_] UB rfl rfl) ?_
 refine zF Jq ?_
 refine zL Qr ?_
 refine zV (QQ (ps:=[(0,_),(1,_),(2,_),(3,_)]) [_,_,_,_] UB rfl rfl) ?_
 refine zF Jh ?_
 refine zL Qr ?_
 refine zV (QQ (ps:=[(0,_),(1,_),(2,_),(3,_)]) [_,_,_,_] UB rfl rfl) ?_
 refine zF Ju ?_
 refine zL Qr ?_
 refine zV (QQ (ps:=[(0,_),(1,_),(2,_),(3,_)]) [_,_,_,_] UB rfl rfl) ?_
 refine zF Jk ?_
 refine zL Qr ?_
 refine zV (QQ (ps:=[(0,_),(1,_),(2,_),(3,_)]) [_,_,_,_] UB rfl rfl) ?_
 refine zF Jg ?_
 refine zL Qr ?_
 refine zV (QQ (ps:=[(0,_),(1,_),(2,_),(3,_)]) [_,_,_,_] UB rfl rfl) ?_
 refine Qp (ps:=[(0,_),(1,_),(2,_),(3,_),(4,_),(5,_),(6,_)]) (m:=[zjn ⟨x.role,0,63,6⟩,zjn ⟨x.kind,1,9,4⟩,zjn ⟨x.side,0,2,2⟩,zjn ⟨x.dir,0,8,4⟩,zjn ⟨x.level,0,3,2⟩,zjn ⟨x.size,0,255,8⟩,zjn ⟨x.wth,0,64,7⟩]) zro rfl (.cons rfl (.cons rfl (.cons rfl (.cons rfl (.cons rfl (.cons rfl (.cons rfl (.nil)))))))) rfl (by simp [zgC]) (by decide) (by decide) rfl rfl (fun b_27=>?_)
 refine Z1 (b:=b_27) (by repeat (first | exact Zc.here | apply Zc.there)) (fun I1 hI1 hb1=>?_)
 have hIc:=hIc.trans hI1
 have hDg:Sl I1 4 zjn (some ⟨b_27,0,none⟩) 7 7 (dgs x):=Sl.lit (dgs x) rfl zgC (show _=some (Obj.cells ((dgs x).flatMap zjn).toArray 165 (0,0)) from hb1)
 refine qc (vs:=[_]) rfl zwb (zxH hDg (by decide) (zy5 x)) ?_
 refine zM ?_
 refine zE ?_
 refine zE ?_
 refine zA ?_
 refine zA (zN (Qk (zR ?_)))
 refine zM ?_
 refine zO (zN ?_)
 refine zI ?_ ?_<;>intro hc32
 ·
  have hp0:(Y2 0 (dgs x)).isSome=false:=by simpa using hc32
  obtain ⟨k1,k2⟩:=zkZ hp0
  refine zR (zA ?_)
  refine zA (zN (Qs (Qb ?_)))
  exact Zr rfl rfl rfl (fun w hw=>⟨by rw [k1,k2],(hw.mono hIc).drop⟩)
 have hp0:(Y2 0 (dgs x)).isSome=true:=by simpa using hc32
 have k2:=znR hp0
 refine Qo (Qa (zR (zM ?_)))
 refine zA ?_
 refine zA (zN (Qs ?_))
 first
 | exact Zr rfl rfl rfl (fun w hw=>⟨by rw [k2];rfl,(hw.mono hIc).drop⟩)
end
section
open Go Go.Kn Go.Proofs
theorem zl3:((List.range 9).all fun b=>decide (0≤IntKind.i64.wrap (1*2^(min ((b:Nat):Int).toNat IntKind.i64.bits))∧IntKind.i64.wrap (1*2^(min ((b:Nat):Int).toNat IntKind.i64.bits))≤256))=true:=by kernel_rfl
theorem zq7 {b:Nat}(h:b≤8):0≤IntKind.i64.wrap (1*2^(min ((b:Nat):Int).toNat IntKind.i64.bits))∧IntKind.i64.wrap (1*2^(min ((b:Nat):Int).toNat IntKind.i64.bits))≤256:=of_decide_eq_true (List.all_eq_true.1 zl3 b (List.mem_range.2 (by omega)))
theorem ztM (I:Qw)(r:Nat)(c:Int)(b:Nat)(hb:b≤8):Z4 Tryz.prog 46 [.int .i64 b,Ze r] I [(r,.cells #[.int .i64 c] 3 (0,0))] (fun v I' L'=>v= .int .i64 (JO c (IntKind.i64.wrap (1*2^(min (b:Int).toNat IntKind.i64.bits))-1))∧I'=I∧L'=[(r,.cells #[.int .i64 (c.fdiv (2^(min (b:Int).toNat IntKind.i64.bits)))] 3 (0,0))]):=by
 intro g H w hw
 refine qe Tryz.func46 Tryz.ntmps46 hw ?_
 have hmb:=zq7 hb
 refine zR (zA (zN (Qk ?_)))
 refine Yq mixed (by kernel_rfl) ?_
 refine zq (Qd rfl Qr (fun hg=>by exact QY.h0 rfl)) ?_
 refine zq (Qh rfl) ?_
 refine zq (K6 rfl rfl (fun hg=>by omega)) ?_
 refine zq (ZA rfl rfl rfl (fun _=>by omega)) ?_
 refine zq (Kj rfl rfl) ?_
 refine zq (ZM rfl) ?_
 refine Yp ?_
 refine Qa (zR ?_)
 refine zL Qr ?_
 refine zM ?_
 refine zV (zj1 rfl rfl (by omega) rfl) ?_
 refine zS Yd ?_
 refine zN (zR ?_)
 refine zM ?_
 refine zA (zN (Qs ?_))
 exact Zq rfl rfl (fun w hw=>⟨_,I,_,rfl,zAl _,hw,rfl,rfl,rfl⟩)
end
section
open Go Go.Kn Go.Proofs
def lbN (b:Nat)(c:Int):Int:=JO c (IntKind.i64.wrap (1*2^(min (b:Int).toNat IntKind.i64.bits))-1)
def shN (b:Nat)(c:Int):Int:=c.fdiv (2^(min (b:Int).toNat IntKind.i64.bits))
def zjL (c:Int):Sg:=⟨0,shN 4 (shN 2 (shN 4 (shN 2 (shN 8 (shN 7 c))))),0,0,lbN 4 (shN 2 (shN 4 (shN 2 (shN 8 (shN 7 c))))),lbN 2 (shN 4 (shN 2 (shN 8 (shN 7 c)))),lbN 4 (shN 2 (shN 8 (shN 7 c))),lbN 2 (shN 8 (shN 7 c)),lbN 8 (shN 7 c),lbN 7 c,0,0,0,0⟩
def zhL:Sg:=⟨0,0,0,0,0,0,0,0,0,0,0,0,0,0⟩
def Jo (c:Int):Int:=JM (zjL c)
def Uo (c:Int):Sg:=if Jo c≠0 then zhL else zjL c
end
section
open Go Go.Kn Go.Proofs
theorem ZI:AgT Tryz.prog 54 14:=.of (by kernel_rfl)
theorem zaZ:Fun Tryz.prog 46:=.of Tryz.func46 (by kernel_rfl) (by kernel_rfl)
theorem zoJ:Fun Tryz.prog 47:=.of Tryz.func47 (by kernel_rfl) (by kernel_rfl)
theorem KA:PlT Tryz.prog 54 #[(0,1),(1,1),(2,1),(3,1),(4,1),(5,1),(6,1),(7,1),(8,1),(9,1),(10,2),(12,2)] (.agg #[(.int .i64 0),(.int .i64 0),(.int .i64 0),(.int .i64 0),(.int .i64 0),(.int .i64 0),(.int .i64 0),(.int .i64 0),(.int .i64 0),(.int .i64 0),(.int .i64 0),(.int .i64 0),(.int .i64 0),(.int .i64 0)]):=⟨.of (by kernel_rfl),by kernel_rfl,fun w=>by kernel_rfl⟩
theorem Y5:SzT Tryz.prog 54 14:=.of (by kernel_rfl)
theorem Wg:Yz Tryz.prog 54 (.agg #[(.int .i64 0),(.int .i64 0),(.int .i64 0),(.int .i64 0),(.int .i64 0),(.int .i64 0),(.int .i64 0),(.int .i64 0),(.int .i64 0),(.int .i64 0),(.int .i64 0),(.int .i64 0),(.int .i64 0),(.int .i64 0)]):=.of (by kernel_rfl)
theorem WP (I:Qw)(r:Nat)(c:Int)(b:Nat)(hb:b≤8):Z4 Tryz.prog 46 [.int .i64 b,Ze r] I [(r,.cells #[.int .i64 c] 3 (0,0))] (fun v I' L'=>v= .int .i64 (lbN b c)∧I'=I∧L'=[(r,.cells #[.int .i64 (shN b c)] 3 (0,0))]):=ztM I r c b hb
set_option maxHeartbeats 1600000 in
theorem zlb (I:Qw) (c:Int):Zu Tryz.prog 23 [.int .i64 c] I (.tuple #[J0 (Uo c),.int .i64 (Jo c)]):=by
 intro g H w hw
 refine qe Tryz.func23 Tryz.ntmps23 hw ?_
 have hIc:=zAl I
 refine zR ?_
 refine Qv Wg rfl rfl (fun b_2=>?_)
 refine zA ?_
 refine zN (zR ?_)
 refine zM ?_
 refine Qv zv8 rfl rfl (fun b_4=>?_)
 refine zS Yd ?_
 refine zN (zR ?_)
 refine zV (Zf (us:=[]) (vs:=[_]) rfl rfl) ?_
 refine zA ?_
 refine zN (zR ?_)
 refine zM ?_
 refine QA (cap:=[Ze b_4]) (vs:=[_]) rfl rfl zaZ (by repeat (first | exact .cons .here .nil | exact QD | exact Qy | apply QC | apply QB)) (WP _ b_4 c 7 (by decide)) rfl rfl ?_
 rintro vv1 I1 L1 hI1 ⟨rfl,rfl,rfl⟩
 have hIc:=hIc.trans hI1
 refine zF Jg ?_
 refine zS Yd ?_
 refine zN (zR ?_)
 refine zM ?_
 refine QA (cap:=[Ze b_4]) (vs:=[_]) rfl rfl zaZ (by repeat (first | exact .cons .here .nil | exact QD | exact Qy | apply QC | apply QB)) (WP _ b_4 (shN 7 c) 8 (by decide)) rfl rfl ?_
 rintro vv2 I2 L2 hI2 ⟨rfl,rfl,rfl⟩
 have hIc:=hIc.trans hI2
 refine zF Jk ?_
 refine zS Yd ?_
 refine zN (zR ?_)
 refine zM ?_
 refine QA (cap:=[Ze b_4]) (vs:=[_]) rfl rfl zaZ (by repeat (first | exact .cons .here .nil | exact QD | exact Qy | apply QC | apply QB)) (WP _ b_4 (shN 8 (shN 7 c)) 2 (by decide)) rfl rfl ?_
 rintro vv3 I3 L3 hI3 ⟨rfl,rfl,rfl⟩
 have hIc:=hIc.trans hI3
 refine zF Ju ?_
 refine zS Yd ?_
 refine zN (zR ?_)
 refine zM ?_
 refine QA (cap:=[Ze b_4]) (vs:=[_]) rfl rfl zaZ (by repeat (first | exact .cons .here .nil | exact QD | exact Qy | apply QC | apply QB)) (WP _ b_4 (shN 2 (shN 8 (shN 7 c))) 4 (by decide)) rfl rfl ?_
 rintro vv4 I4 L4 hI4 ⟨rfl,rfl,rfl⟩
 have hIc:=hIc.trans hI4
 refine zF Jh ?_
 refine zS Yd ?_
 refine zN (zR ?_)
 refine zM ?_
 refine QA (cap:=[Ze b_4]) (vs:=[_]) rfl rfl zaZ (by repeat (first | exact .cons .here .nil | exact QD | exact Qy | apply QC | apply QB)) (WP _ b_4 (shN 4 (shN 2 (shN 8 (shN 7 c)))) 2 (by decide)) rfl rfl ?_
 rintro vv5 I5 L5 hI5 ⟨rfl,rfl,rfl⟩
 have hIc:=hIc.trans hI5
 refine zF Jq ?_
 refine zS Yd ?_
 refine zN (zR ?_)
 refine zM ?_
 refine QA (cap:=[Ze b_4]) (vs:=[_]) rfl rfl zaZ (by repeat (first | exact .cons .here .nil | exact QD | exact Qy | apply QC | apply QB)) (WP _ b_4 (shN 2 (shN 4 (shN 2 (shN 8 (shN 7 c))))) 4 (by decide)) rfl rfl ?_
 rintro vv6 I6 L6 hI6 ⟨rfl,rfl,rfl⟩
 have hIc:=hIc.trans hI6
 refine zF Ub ?_
 refine zS Yd ?_
 refine zN (zR ?_)
 refine zL Qr ?_
 refine zF Jm ?_
 refine zS Yd ?_
 refine zN (Qk (zR ?_))
 refine zV (Qq rfl ZI (fun hg=>by exact Cells.g1) rfl) ?_
 refine qc (vs:=[_]) rfl zoJ (zoD _ (zjL c)) ?_
 refine zM ?_
 refine zE ?_
 refine zE ?_
 refine zA ?_
 refine zN (zR ?_)
 refine zM ?_
 refine zC (zN ?_)
 refine zI ?_ ?_<;>intro hc34
 ·
  have he:Jo c≠0:=by unfold Jo;simpa using hc34
  have k1:Uo c=zhL:=if_pos he
  have he9:Jo c=JM (zjL c):=rfl
  refine zR ?_
  refine zV (QQ (ps:=[]) [_,_,_,_,_,_,_,_,_,_,_,_,_,_] KA rfl rfl) ?_
  refine zM ?_
  refine zh Y5 ?_
  refine zA (zN (Qs (Qb ?_)))
  exact Zp rfl rfl rfl ZI (by repeat (first | exact zAj | apply zAi)) rfl (fun w hw=>⟨by rw [k1,he9];rfl,(hw.mono hIc).drop⟩)
 have he:Jo c=0:=by unfold Jo;simpa using hc34
 have k1:Uo c=zjL c:=if_neg (by omega)
 have he9:=he
 refine Qo (Qa (zR ?_))
 refine zV (Qq rfl ZI (fun hg=>by exact Cells.g1) rfl) ?_
 refine zh Y5 ?_
 refine zA (zN (Qs ?_))
 exact Zp rfl rfl rfl ZI (by repeat (first | exact zAj | apply zAi)) rfl (fun w hw=>⟨by rw [k1,he9];rfl,(hw.mono hIc).drop⟩)
end
section
open Go Go.Kn Go.Proofs
def zgn (x y:Int):Int:=if (x != y&&x != 8589934592&&y != 8589934592)=true then 3 else 0
end
section
open Go Go.Kn Go.Proofs
theorem zfU (I:Qw)(x y:Int):Zu Tryz.prog 104 [.int .i64 x,.int .i64 y] I (.int .i64 (zgn x y)):=by
 intro g H w hw
 refine qe Tryz.func104 Tryz.ntmps104 hw ?_
 refine zR (zA (zN (Qk (zR ?_))))
 refine zM ?_
 refine zM ?_
 refine zC ?_
 refine zM ?_
 refine QG 3 rfl rfl rfl ?_
 refine zK (Qh rfl) ?_
 refine zK (QI rfl rfl rfl) ?_
 refine QL rfl rfl rfl rfl rfl ?_
 refine zM ?_
 refine QG 7 rfl rfl rfl ?_
 refine zK (Qh rfl) ?_
 refine zK (QI rfl rfl rfl) ?_
 refine QL rfl rfl rfl rfl rfl ?_
 refine zN ?_
 refine zI ?_ ?_<;>intro hc15
 ·
  refine zR (zA (zN (Qs (Qb ?_))))
  first
  | exact zr rfl rfl (by unfold zgn;rw [if_pos (by assumption)])
 refine Qo (Qa (zR (zA (zN (Qs ?_)))))
 first
 | exact zr rfl rfl (by unfold zgn;rw [if_neg (by simp_all)])
end
section
open Go Go.Kn Go.Proofs
structure Rd where
 lost:Bool
 sg:Sg
def Wa (r:Rd):List Value:=.bool r.lost::Vy r.sg
theorem Zx (r:Rd):(Wa r).length=15:=rfl
def KE (r:Rd):Int:=if r.lost=true then 8589934592 else zay r.sg
end
section
open Go Go.Kn Go.Proofs
theorem zgk:AgT Tryz.prog 60 15:=.of (by kernel_rfl)
theorem Jj:Q3 Tryz.prog 60 0 0:=.of (by kernel_rfl)
theorem JR:Q3 Tryz.prog 60 1 1:=.of (by kernel_rfl)
theorem Wp:Q3 Tryz.prog 65 2 2:=.of (by kernel_rfl)
theorem zb4:ScT Tryz.prog 4:=.of (by kernel_rfl)
theorem zdA:ScT Tryz.prog 63:=.of (by kernel_rfl)
theorem zaf:SlT Tryz.prog 63 60 15:=.of (by kernel_rfl)
theorem zf5:SzT Tryz.prog 60 15:=.of (by kernel_rfl)
theorem zmc:Yz Tryz.prog 60 (.agg #[(.bool false),(.int .i64 0),(.int .i64 0),(.int .i64 0),(.int .i64 0),(.int .i64 0),(.int .i64 0),(.int .i64 0),(.int .i64 0),(.int .i64 0),(.int .i64 0),(.int .i64 0),(.int .i64 0),(.int .i64 0),(.int .i64 0)]):=.of (by kernel_rfl)
theorem Yy {I:Qw}{av:Option Addr}{n c:Nat}{rs:List Rd}(hR:Sl I 15 Wa av n c rs)(hn:n≤100000)(no yr:Int):Z4 Tryz.prog 59 [.agg #[.int .i64 no,.int .i64 yr,.slice av n c]] I [] (KD 1 QP (rs.map KE)):=by
 intro g H w hw
 refine qe Tryz.func59 Tryz.ntmps59 hw ?_
 have hIc:=zAl I
 refine zR ?_
 refine Q9 rfl rfl rfl (fun b_1=>?_)
 refine zA (zN (Qk (Qk ?_)))
 refine VN (fun I1 hI1 hall=>?_)
 have hR:=hR.mono hI1;have hIc:=hIc.trans hI1
 have hCw:QY I1 [] b_1 2 (.slice av n c):=.imm (hall _ _ (by repeat (first | exact List.mem_cons_self .. | apply List.mem_cons_of_mem))) rfl
 refine Qf ?_
 refine zF Wp ?_
 refine zV (Qd rfl zdA (fun hg=>by exact hCw.any)) ?_
 refine zQ zaf ?_
 refine zM (zN (Ql ?_))
 refine zU [(7,_),(8,_)] (fun T L0 mz E I' loc'=>∃ (k:Nat) (v2:Value) (L:Go.Kn.Loc),mz=n-k∧E=(2,v2)::(9,.int .i64 k)::T∧I1=I'∧L=loc'∧k≤n∧OwnS 3 1 v2 k (((rs.take k).map KE).flatMap QP) L) ?_ (h:=⟨0,_,[],rfl,rfl,rfl,rfl,Nat.zero_le _,OwnS.nil⟩)
 rintro mz E I' loc' ⟨k,v2,L,rfl,rfl,rfl,rfl,hk,hO⟩
 refine zR (zC (zN (Qk ?_)))
 refine zI ?_ ?_<;>intro hc10
 ·
  have hlt_k:k<n:=by have h:=hc10;simp at h;omega
  obtain ⟨r,hr⟩:=hR.at hlt_k
  refine Qo (Qa (Qk (Ql (zR ?_))))
  refine zV (zX zaf hR) ?_
  refine zV (Qq rfl zgk (fun hg=>by exact zAm hR hr) rfl) ?_
  refine Qv zmc rfl rfl (fun b_4=>?_)
  refine zh zf5 ?_
  refine zN (zR ?_)
  refine zA (zN (Qk (zR ?_)))
  refine zF Jj ?_
  refine zV (Qd rfl zb4 (fun hg=>by exact zAg rfl)) ?_
  refine zO (zN ?_)
  refine zI ?_ ?_<;>intro hc15
  ·
   have hlo:KE r=zay r.sg:=by unfold KE;rw [if_neg (by simpa using hc15)]
   refine Qf ?_
   refine zF JR ?_
   refine zV (Qq rfl ZI (fun hg=>by exact Cells.s0 (vs:=[_,_,_,_,_,_,_,_,_,_,_,_,_,_]) rfl) rfl) ?_
   refine qc (vs:=[_]) rfl zoJ (zoD _ r.sg) ?_
   refine zM ?_
   refine zE ?_
   refine zE ?_
   refine zA (Qc ?_)
   rw [←hlo]
   refine Qa (Qf (zM ?_))
   refine zM ?_
   refine Qp (ps:=[(0,_)]) (m:=[QP (KE r)]) Za rfl (.cons rfl (.nil)) rfl (by simp [Qu]) (by decide) (by decide) rfl rfl (fun b_24=>?_)
   refine QU (v:=_) (ys:=[KE r].flatMap QP) (L:=L) rfl rfl Za hO (by repeat (first | exact .cons .here .nil | exact QD | exact Qy | apply QC | apply QB)) ⟨rfl,fun _=>rfl,by repeat (first | exact zAj | apply zAi | apply zAk)⟩ (V0 [KE r]) (by omega) rfl rfl ?_
   intro v9 L9 hO9 _;rw [←List.flatMap_append] at hO9
   refine zA (Qc (Qg (Qa (Qf ?_))))
   refine zB ?_
   refine zM (Qc ?_)
   exact zm (h:=⟨n-(k+1),by omega,k+1,_,_,rfl,rfl,rfl,rfl,by omega,by rw [Wd hr];exact hO9⟩)
  have hlo:KE r=8589934592:=by unfold KE;rw [if_pos (by simpa using hc15)]
  rw [←hlo]
  refine Qo (Qa (Qf (zM ?_)))
  refine zM ?_
  refine Qp (ps:=[(0,_)]) (m:=[QP (KE r)]) Za rfl (.cons rfl (.nil)) rfl (by simp [Qu]) (by decide) (by decide) rfl rfl (fun b_24=>?_)
  refine QU (v:=_) (ys:=[KE r].flatMap QP) (L:=L) rfl rfl Za hO (by repeat (first | exact .cons .here .nil | exact QD | exact Qy | apply QC | apply QB)) ⟨rfl,fun _=>rfl,by repeat (first | exact zAj | apply zAi | apply zAk)⟩ (V0 [KE r]) (by omega) rfl rfl ?_
  intro v9 L9 hO9 _;rw [←List.flatMap_append] at hO9
  refine zA (Qc (Qg (Qa (Qf ?_))))
  refine zB ?_
  refine zM (Qc ?_)
  exact zm (h:=⟨n-(k+1),by omega,k+1,_,_,rfl,rfl,rfl,rfl,by omega,by rw [Wd hr];exact hO9⟩)
 have hge_k:n≤k:=by have h:=hc10;simp at h;omega
 rw [Zo hR.len hge_k,show k=n by omega] at hO
 refine QH (Qe (Qe (Qj (Qa (zR (zM ?_))))))
 refine zA (zN (Qs ?_))
 exact Zq rfl rfl (fun w hw=>by obtain ⟨I9,h91,h92,h93⟩:=OwnS.res hO Qu (by decide) hw;exact ⟨_,I9,[],rfl,hIc.trans h91,h92,h93⟩)
end
section
open Go Go.Kn Go.Proofs
structure Wt where
 no:Int
 yr:Int
 a:Option Addr
 n:Nat
 c:Nat
def zpG (w:Wt):List Value:=[.int .i64 w.no,.int .i64 w.yr,.slice w.a w.n w.c]
theorem ZS (w:Wt):(zpG w).length=3:=rfl
def zpv (ws:List Wt):Bool:=decide (ws.length≤5)&&ws.all fun w=>decide (w.n≤8)
end
section
open Go Go.Kn Go.Proofs
theorem VI:SlT Tryz.prog 35 65 3:=.of (by kernel_rfl)
theorem zu6 {I:Qw}{av:Option Addr}{n c:Nat}{ws:List Wt}(hW:Sl I 3 zpG av n c ws)(hn:n≤9223372036854775807):Zu Tryz.prog 28 [.slice av n c] I (.bool (zpv ws)):=by
 intro g H w hw
 refine qe Tryz.func28 Tryz.ntmps28 hw ?_
 have hWl:=hW.len
 refine zR (zA (zN (Qk (zR ?_))))
 refine zM ?_
 refine zQ VI ?_
 refine zC (zN ?_)
 refine zI ?_ ?_<;>intro hc6
 ·
  have h5:¬ws.length≤5:=by have h:=hc6;simp at h;omega
  refine zR (zA (zN (Qs (Qb ?_))))
  first
  | exact zr rfl rfl (by unfold zpv;rw [decide_eq_false h5];rfl)
 have h5:ws.length≤5:=by have h:=hc6;simp at h;omega
 refine Qo (Qa (Qk (zR (zA (zN (Ql ?_))))))
 refine zU [(0,_)] (fun T L0 mz E I' loc'=>∃ (k:Nat),mz=n-k∧E=(3,.int .i64 k)::T∧I=I'∧L0=loc'∧k≤n∧(ws.take k).all (fun w=>decide (w.n≤8))=true) ?_ (h:=⟨0,rfl,rfl,rfl,rfl,Nat.zero_le _,rfl⟩)
 rintro mz E I' loc' ⟨k,rfl,rfl,rfl,rfl,hk,hall⟩
 refine Qk (zR (zM ?_))
 refine zM ?_
 refine zQ VI ?_
 refine zC (zN ?_)
 refine zI ?_ ?_<;>intro hc10
 ·
  have hlt_k:k<n:=by have h:=hc10;simp at h;omega
  obtain ⟨x,hx⟩:=hW.at hlt_k
  refine Qo (Qa (Qk (Ql (zR (zM ?_)))))
  refine zM ?_
  refine zV (zX VI hW) ?_
  refine zF Wp ?_
  refine zV (Qd rfl zdA (fun hg=>by exact zAn hW hx rfl)) ?_
  refine zQ zaf ?_
  refine zC (zN ?_)
  refine zI ?_ ?_<;>intro hc19
  ·
   have h8:decide (x.n≤8)=false:=by have h:=hc19;simp at h;simp;omega
   refine zR (zA (zN (Qs (Qm (Qb (Qb (Qm ?_)))))))
   refine Qb ?_
   first
   | exact zr rfl rfl (by unfold zpv;rw [List.all_eq_false.2 ⟨x,List.mem_of_getElem? hx,by rw [h8];decide⟩,Bool.and_false])
  have h8:decide (x.n≤8)=true:=by have h:=hc19;simp at h;simp;omega
  refine Qo (Qg (Qa (Qf (zM ?_))))
  refine zB ?_
  refine zA (Qc ?_)
  exact zm (h:=⟨n-(k+1),by omega,k+1,rfl,rfl,rfl,rfl,by omega,by rw [Z6 hx,List.all_append,hall];simpa using h8⟩)
 have hge_k:n≤k:=by have h:=hc10;simp at h;omega
 rw [List.take_of_length_le (by omega)] at hall
 refine QH (Qe (Qe (Qj (Qa (zR (zA (zN ?_)))))))
 refine Qs ?_
 first
 | exact zr rfl rfl (by unfold zpv;rw [hall,decide_eq_true h5];rfl)
end
section
open Go Go.Kn Go.Proofs
def Vw:Sg:=zhL
def ZO (n lo hi:Int):Bool:=decide (n≥lo)&&decide (n≤hi)
/-! ### Ratios -/
def zhN (n:Int):Int:=if n<0 then 0-n else n
def zxP (a b:Int):Int:=(Int.gcd a b:Int)
def UN (n d:Int):Bool:= !(((((decide (d<1)||decide (d>1073741824))||decide (n< -1073741824))||decide (n>1073741824))||(zxP n d != 1)))
def zeR (fn fd tn td:Int):Bool:=(UN fn fd&&UN tn td)&&(decide (fn*td<tn*fd)&&(decide (fn≥0)&&decide (tn≤td)))
/-! ### Signs -/
def zz0 (k:Sg):Bool:=ZO k.id 0 1048576&&ZO k.role 0 63&&ZO k.bar 0 4095&&ZO k.kind 1 9&&ZO k.mark 1 3&&ZO k.side 0 2&&ZO k.dir 0 8&&ZO k.level 0 3&&ZO k.size 0 255&&ZO k.wth 0 64
def frm (k:Sg):Bool:=zz0 k&&zeR k.fn k.fd k.tn k.td
def skP (xs:List Sg)(i:Nat):Bool:= !(!frm (xs.getD i Vw)||(decide ((i:Int)>0)&&decide ((xs.getD ((i:Int)-1).toNat Vw).id≥(xs.getD i Vw).id)))
def skB (xs:List Sg):Bool:=(List.range xs.length).all (skP xs)
def WM (xs:List Sg):Int:=if xs.length>4096 then 2 else if skB xs then 0 else 360
def zyX (n d:Int):List Value:=[.int .i64 n,.int .i64 d]
def zb3 (n d:Int):Value:=.agg (zyX n d).toArray
theorem zkQ {n:Int}(h:0≤n∧n≤9223372036854775807):IntKind.u64.wrap n=n:=by
 unfold IntKind.wrap IntKind.signed IntKind.bits
 simp
 omega
theorem zr6 {n:Int}(hn: -1073741824≤n∧n≤1073741824)(h:¬n<0):IntKind.u64.wrap n=zhN n:=by
 rw [zkQ (by omega)]
 unfold zhN;rw [if_neg h]
theorem ztp {n:Int}(hn: -1073741824≤n∧n≤1073741824)(h:n<0):IntKind.u64.wrap (0-IntKind.u64.wrap n)=zhN n:=by
 unfold zhN;rw [if_pos h]
 unfold IntKind.wrap IntKind.signed IntKind.bits
 simp
 omega
def zv6 (t b1 b2:Nat)(a b:Int):Go.Kn.Loc:=[(b2,.cells #[.int .u64 b] t (0,0)),(b1,.cells #[.int .u64 a] t (0,0))]
def zcL (a b:Nat):List Nat:=if a=0 then [] else if b=0 then [a,0] else if a % b=0 then [a,b] else a::zcL b (a % b)
termination_by b
decreasing_by exact Nat.mod_lt _ (by omega)
theorem zdV (b:Nat):zcL 0 b=[]:=by rw [zcL];rfl
theorem zcb {a b:Nat}(ha:a≠0)(hb:b≠0)(h:a % b=0):zcL a b=[a,b]:=by rw [zcL,if_neg ha,if_neg hb,if_pos h]
theorem zdf {a b:Nat}(ha:a≠0)(hb:b≠0)(h:a % b≠0):zcL a b=a::zcL b (a % b):=by rw [zcL,if_neg ha,if_neg hb,if_neg h]
theorem zlU:∀ (m:Nat) {a b d:Nat},b≤m→b≠0→(a=0→d=b)→(zcL a b).getLastD d=Nat.gcd a b:=by
 intro m
 induction m with
 | zero=>intro a b d h1 h2;omega
 | succ m ih=>
  intro a b d h1 h2 hd
  by_cases ha:a=0
  ·
   subst ha;rw [zdV,Nat.gcd_zero_left,hd rfl];rfl
  ·
   by_cases h:a % b=0
   ·
    rw [zcb ha h2 h]
    show b=_
    rw [Nat.gcd_comm,Nat.gcd_rec,h,Nat.gcd_zero_left]
   ·
    rw [zdf ha h2 h,List.getLastD_cons,ih (by have:=Nat.mod_lt a (show 0<b by omega);omega) h (fun e=>absurd e h2)]
    rw [Nat.gcd_comm b,←Nat.gcd_rec,Nat.gcd_comm]
theorem zmm (a b:Nat):((a:Int)).tmod (b:Int)=((a % b:Nat):Int):=by
 rw [Int.tmod_eq_emod_of_nonneg (by omega)];rfl
theorem zmk {a b:Int}(ha: -1073741824≤a∧a≤1073741824)(hb: -1073741824≤b∧b≤1073741824): -9223372036854775808≤a*b∧a*b≤9223372036854775807:=by
 have h1:(a*b).natAbs≤1073741824*1073741824:=by
  rw [Int.natAbs_mul]
  exact Nat.mul_le_mul (by omega) (by omega)
 omega
def zt1 (n d:Int):Int:=if UN n d then 0 else 120
theorem zci {n d:Int}(h:UN n d=true):(1≤d∧d≤1073741824)∧ -1073741824≤n∧n≤1073741824:=by
 unfold UN at h
 simp at h
 omega
theorem zqH (n d:Int):Nat.gcd (zhN n).toNat d.toNat=Int.gcd n d.toNat:=by
 unfold Int.gcd zhN
 congr 1
 split<;>omega
theorem Zj {b:Nat}(h:0<b):zsm (b:Int) 1=(b:Int):=by
 unfold zsm
 split<;>omega
theorem zjb {a0 b0 a b:Nat}{pre:List Nat}(h:zcL a0 b0=pre++zcL a b)(ha:a≠0):pre++[a]<+:zcL a0 b0:=by
 rw [h,zcL,if_neg ha]
 have key:∀ l:List Nat,pre++[a]<+:pre++a::l:=fun l=>⟨l,by simp⟩
 split
 ·
  exact key _
 ·
  split<;>exact key _
theorem zif {l:List Nat}{x d:Nat}:(l++[x]).getLastD d=x:=by simp [List.getLastD_eq_getLast?]
theorem ztr {n d:Int}(h:((((decide (d<1)||decide (d>1073741824))||decide (n< -1073741824))||decide (n>1073741824))||(zxP n d != 1))=true):UN n d=false:=by unfold UN;rw [h];rfl
theorem znY {n d:Int}(h:((((decide (d<1)||decide (d>1073741824))||decide (n< -1073741824))||decide (n>1073741824))||(zxP n d != 1))=false):UN n d=true:=by unfold UN;rw [h];rfl
theorem zcC {fn fd tn td:Int}:(zt1 fn fd != 0||zt1 tn td != 0)= !(UN fn fd&&UN tn td):=by
 unfold zt1
 cases UN fn fd<;>cases UN tn td<;>rfl
def zlL (an ad bn bd:Int):Int:=if UN an ad&&UN bn bd then 0 else 120
def zjz (an ad bn bd:Int):Int:=if UN an ad&&UN bn bd then zt4 (an*bd) (bn*ad) else 0
theorem zd8 {fn fd tn td:Int}:(((zlL fn fd tn td==0)&&decide (zjz fn fd tn td<0))&&decide (fn≥0)&&decide (tn≤td))=zeR fn fd tn td:=by
 unfold zlL zjz zeR zt4
 cases h:(UN fn fd&&UN tn td) with
 | false=>rfl
 | true=>
  simp only [if_true,Bool.true_and]
  by_cases h2:fn*td<tn*fd
  ·
   simp [h2]
  ·
   by_cases h3:fn*td>tn*fd<;>simp [h2,h3]
theorem zdl {xs:List Sg}{k:Nat}{x:Sg}(hx:xs[k]? =some x):skP xs k= !(!frm x||(decide ((k:Int)>0)&&decide ((xs.getD ((k:Int)-1).toNat Vw).id≥x.id))):=by unfold skP;rw [QN hx]
end
end Go.Proofs.YtodakphagkommaaGreatDoor
namespace Go.Kn
section
open Go
structure Kp (p:Prop):Prop where
 out:p
theorem zAb {p q:Prop}(h1:Kp p→q)(h2:p):q:=h1 ⟨h2⟩
theorem ZX {C:Cx}{Q:Exit→Act→World→Prop}{e:Exit}{E E':Env}{I:Qw}{loc:Loc}(h:Kp (At C Q e E' I loc))(hE:Sub E' E:=by repeat (first | exact Sub.nil | refine Sub.cons rfl ?_)):At C Q e E I loc:=
 fun a w ha hw=>h.out a w (ha.sub hE) hw
end
end Go.Kn
