/- apparatusOriginSpec_holds, part D of the proof: what its theorems say holds without further conditions. -/
import Derived.Test.YtodakphagkommaaGreatDoorAOC
namespace Go.Kn
section
open Go
structure Kp (p:Prop):Prop where
 out:p
theorem zIS {p q:Prop}(h1:Kp p->q)(h2:p):q:=h1 ⟨h2⟩
theorem Z8 {C:Cx}{Q:Exit->Act->World->Prop}{e:Exit}{E d:Env}{I:Qu}{b:Loc}(h:Kp (At C Q e d I b))(f:Sub d E:=by repeat (first | exact Sub.nil | refine Sub.cons U ?_)):At C Q e E I b:=
 fun a w g i=>h.out a w (g.sub f) i
end
end Go.Kn
namespace Go.Proofs.YtodakphagkommaaGreatDoor
section
open Go Go.Kn Go.Proofs
theorem Ys:km 52 2:=.of kA
theorem YB:kh 52 0 0:=.of kA
theorem Y4:kh 52 1 1:=.of kA
theorem Zu:kh 54 0 0:=.of kA
theorem Yy:kh 54 10 10:=.of kA
theorem Yz:kh 54 11 12:=.of kA
theorem Vn:kh 54 2 2:=.of kA
theorem YP:kh 54 3 3:=.of kA
theorem ziF:ke 142:=.of Tryz.func142 kA kA
theorem zqv:ke 154:=.of Tryz.func154 kA kA
theorem zal:ke 192:=.of Tryz.func192 kA kA
theorem YV:ke 202:=.of Tryz.func202 kA kA
theorem zpD:ke 203:=.of Tryz.func203 kA kA
theorem zqD:ke 237:=.of Tryz.func237 kA kA
theorem ze9:ke 253:=.of Tryz.func253 kA kA
theorem zAM:ke 259:=.of Tryz.func259 kA kA
theorem zzj:ke 260:=.of Tryz.func260 kA kA
theorem zw8:ke 262:=.of Tryz.func262 kA kA
theorem zAI:ke 265:=.of Tryz.func265 kA kA
theorem ZK:kl 186:=.of kA
theorem Z7:ko 48 54 14:=.of kA
theorem QX:ki 186 1:=.of kA
theorem zCK:kj 186 (.int .u64 0):=.of kA
theorem zlc (I:Qu)(x:Int):kf 192 [.int .i64 x] I (.bool false):=by intro g H w a;refine qe Tryz.func192 Tryz.ntmps192 a ?_;refine zR (zA ?_);refine zN (zR ?_);refine zM ?_;refine zM ?_;refine zC ?_;refine zA (zN (Qq ?_));exact zr U U kJ
theorem zsr (I:Qu)(x y:Int):kf 142 [.int .i64 x,.int .i64 y] I (.int .i64 (zwi x y)):=by
 intro g H w h;refine qe Tryz.func142 Tryz.ntmps142 h ?_;refine zR<|zA ?_;refine zN<|zR ?_;refine zM ?_;refine qcV (vs:=[_]) U zal (zlc I _) ?_;refine zA ?_;refine zN<|zR ?_;refine zM ?_;refine qcV (vs:=[_]) U zal (zlc I _) ?_;refine zA<|zN<|Qk<|zR ?_;refine zM<|zN ?_;refine zI ?_ ?_<;>intro d
 ·cases d
 refine Qm<|Qa<|Qk<|zR<|zM<|zN ?_;refine zI ?_ ?_<;>intro f
 ·cases f
 refine Qm<|Qa<|Qk<|zR<|zM ?_;refine zM ?_;refine zC<|zN ?_;refine zI ?_ ?_<;>intro a
 focus
  refine zR<|zA<|zN<|Qq<|Qb ?_
 rotate_left
 refine Qm<|Qa<|Qk<|zR<|zM ?_;refine zM ?_;refine zC<|zN ?_;refine zI ?_ ?_<;>intro b
 focus
  refine zR<|zA<|zN<|Qq<|Qb ?_
 rotate_left
 refine Qm<|Qa<|zR<|zA<|zN<|Qq ?_
 all_goals
  exact zr U U (by unfold zwi;first | (rw [jb (by simpa using a)]) | (rw [ja (by simpa using a),jb (by simpa using b)]) | (rw [ja (by simpa using a),ja (by simpa using b)]))
theorem zIK (I:Qu)(n:Int)(b: -1073741824<=n/\n<=1073741824):kf 260 [.int .i64 n] I (.int .u64 (zcV n)):=by
 intro g H w d;refine qe Tryz.func260 Tryz.ntmps260 d ?_;refine zR<|zA<|zN<|Qk<|zR ?_;refine zM ?_;refine zC<|zN ?_;refine zI ?_ ?_<;>intro a
 ·refine zR<|zM ?_;refine zV (Uy U U0) ?_;refine zV (zpY U) ?_;refine zA<|zN<|Qq<|Qb ?_;exact zr U U (by rw [zzl b (by simpa using a)])
 refine Qm<|Qa<|zR<|zM ?_;refine zV (Uy U U0) ?_;refine zA<|zN<|Qq ?_;exact zr U U (by rw [zwV b (by simpa using a)])
theorem zGI (I:Qu)(a b:Int):kg 262 [.int .u64 a,.int .u64 b] I [] (fun v p L=>p=I/\∃ f h,v= .func (.func 265) #[] [Zm f,Zm h].toArray/\L=zBY 186 f h a b):=by intro g H w d;refine qe Tryz.func262 Tryz.ntmps262 d ?_;refine zR ?_;refine QU U U U (fun i=>?_);refine QU U U U (fun j=>?_);refine zA ?_;refine zN (zR ?_);refine zV (Zn (us:=[]) (vs:=[_,_]) U U) ?_;refine zA (zN (Qq ?_));exact Zc U U (fun w d=>⟨_,I,_,U,zJH _,d,U,_,_,U,U⟩)
theorem zrn (I:Qu)(D C:Nat)(G K:Nat)(Z:0<C)(Y:D<=9223372036854775807)(a1:C<=9223372036854775807):zID Tryz.prog 265 [Zm G,Zm K] I (zBY 186 G K (D) (C)) (fun n:Nat=>.int .u64 n) (zfy D C):=by
 intro g l J Jx hY I0 H w h0 hJ Q;refine qe Tryz.func265 Tryz.ntmps265 Q ?_;refine Ql ?_;refine zhQ (fun m E p H' A=>∃ (a b:Nat) (i:List Nat),m=b/\E=[(0,.func (.yield l) #[] #[]),(1,Zm G),(2,Zm K)]/\A=zBY 186 G K (a) (b)/\HLe I0 p/\J i p H'/\zfy D C=i++zfy a b/\0<b/\a<=9223372036854775807/\b<=9223372036854775807) _ _ _ ⟨D,C,[],U,U,U,zJH _,hJ,U,Z,Y,a1⟩ kc U ?_;rintro m E p H' A ⟨a,b,i,a6,rfl,rfl,s,O,q,f,a4,a5⟩;subst m;have M:=h0.trans s;refine Qk<|zR ?_;refine zL ZK ?_;refine zC ?_;refine zM ?_;refine Qw 2 U U U ?_;refine zK (Qd U) ?_;refine zK (Qc U ZK (fun hg=>by exact QO.h1 U)) ?_;refine zgW (vs:=[_]) (Post:=fun t B F=>if t then J (i++[a]) B F else Jx (i++[a]) B F) U U (.some U U U U gbt) U U (fun a2=>hY i a _ _ (zoh q (by simpa [ZH] using a2)) M O) ?_;rintro t B F u z a3;refine QC U U U U U ?_;refine zN ?_;refine zI ?_ ?_<;>intro o
 ·have j:a≠0:=(by simp at o;exact o.1);have ht:t=true:=(by simp at o;exact o.2);subst ht;have N:J (i++[a]) B F:=z (by simp [ZH];exact j);refine Qm<|Qa<|Ql<|Qk ?_;apply zIS
  ·intro key;have d:=zJH B;refine VR ?_;refine ZM B [] mixed ?_;refine WG 0 1 2 U U U kA ?_ ?_ ?_
   ·refine zL ZK ?_;refine Qe ?_;refine zD d ?_;refine Zv 1 2 U U kA ?_ ?_
    ·refine zL ZK ?_;refine Qe ?_;refine zD d ?_;refine Zv 2 5 U U kA ?_ ?_
     focus
      refine zL ZK ?_;refine Qe ?_;refine zD d ?_;refine Zv 3 5 U U kA ?_ ?_
      ·refine zV (VK U U) ?_;refine Qe ?_;refine zD d ?_;refine Zv 4 5 U U kA ?_ ?_
       focus
        refine zV (ZU U U (fun hg=>by rw [Zr f];omega)) ?_;refine Qe ?_;refine zD d ?_;refine qd 5 U ?_;refine zS QX ?_
       rotate_left
       refine zS QX ?_;refine Qe ?_;refine zD d ?_;refine qd 4 U ?_;refine zV (ZU U U (fun hg=>by rw [Zr f];omega)) ?_
       all_goals
        refine Qe ?_;refine zD d ?_;refine qd 6 U ?_;refine zS QX ?_;refine Qe ?_;refine zD d ?_;refine QH kA ?_;refine QP ?_
        first | exact key.out | exact Z8 key
      refine zS QX ?_
     rotate_left
     refine zS QX ?_;refine Qe ?_;refine zD d ?_;refine qd 2 U ?_;refine zL ZK ?_
     all_goals
      refine Qe ?_;refine zD d ?_;refine qd 3 U ?_;refine zV (VK U U) ?_;refine Qe ?_;refine zD d ?_;refine qd 4 U ?_;refine zV (ZU U U (fun hg=>by rw [Zr f];omega)) ?_;refine Qe ?_;refine zD d ?_;refine qd 6 U ?_;refine zS QX ?_;refine Qe ?_;refine zD d ?_;refine QH kA ?_;refine QP ?_
      first | exact key.out | exact Z8 key
    refine zL ZK ?_;refine Qe ?_;refine zD d ?_;refine Zv 1 3 U U kA ?_ ?_
    focus
     refine zL ZK ?_;refine Qe ?_;refine zD d ?_;refine Zv 3 5 U U kA ?_ ?_
     ·refine zV (VK U U) ?_;refine Qe ?_;refine zD d ?_;refine Zv 4 5 U U kA ?_ ?_
      focus
       refine zV (ZU U U (fun hg=>by rw [Zr f];omega)) ?_;refine Qe ?_;refine zD d ?_;refine qd 5 U ?_;refine zS QX ?_
      rotate_left
      refine zS QX ?_;refine Qe ?_;refine zD d ?_;refine qd 4 U ?_;refine zV (ZU U U (fun hg=>by rw [Zr f];omega)) ?_
      all_goals
       refine Qe ?_;refine zD d ?_;refine qd 6 U ?_;refine zS QX ?_;refine Qe ?_;refine zD d ?_;refine QH kA ?_;refine QP ?_
       first | exact key.out | exact Z8 key
     refine zS QX ?_;refine Qe ?_;refine zD d ?_;refine qd 3 U ?_;refine zV (VK U U) ?_;refine Qe ?_;refine zD d ?_;refine qd 4 U ?_;refine zV (ZU U U (fun hg=>by rw [Zr f];omega)) ?_
    rotate_left
    refine zV (VK U U) ?_;refine Qe ?_;refine zD d ?_;refine qd 1 U ?_;refine zL ZK ?_;refine Qe ?_;refine zD d ?_;refine Zv 4 5 U U kA ?_ ?_
    focus
     refine zV (ZU U U (fun hg=>by rw [Zr f];omega)) ?_;refine Qe ?_;refine zD d ?_;refine qd 5 U ?_;refine zS QX ?_
    rotate_left
    refine zS QX ?_;refine Qe ?_;refine zD d ?_;refine qd 4 U ?_;refine zV (ZU U U (fun hg=>by rw [Zr f];omega)) ?_
    all_goals
     refine Qe ?_;refine zD d ?_;refine qd 6 U ?_;refine zS QX ?_;refine Qe ?_;refine zD d ?_;refine QH kA ?_;refine QP ?_
     first | exact key.out | exact Z8 key
   ·refine zL ZK ?_;refine Qe ?_;refine zD d ?_;refine Zv 0 2 U U kA ?_ ?_
    ·refine zL ZK ?_;refine Qe ?_;refine zD d ?_;refine Zv 2 5 U U kA ?_ ?_
     focus
      refine zL ZK ?_;refine Qe ?_;refine zD d ?_;refine Zv 3 5 U U kA ?_ ?_
      ·refine zV (VK U U) ?_;refine Qe ?_;refine zD d ?_;refine Zv 4 5 U U kA ?_ ?_
       focus
        refine zV (ZU U U (fun hg=>by rw [Zr f];omega)) ?_;refine Qe ?_;refine zD d ?_;refine qd 5 U ?_;refine zS QX ?_
       rotate_left
       refine zS QX ?_;refine Qe ?_;refine zD d ?_;refine qd 4 U ?_;refine zV (ZU U U (fun hg=>by rw [Zr f];omega)) ?_
       all_goals
        refine Qe ?_;refine zD d ?_;refine qd 6 U ?_;refine zS QX ?_;refine Qe ?_;refine zD d ?_;refine QH kA ?_;refine QP ?_
        first | exact key.out | exact Z8 key
      refine zS QX ?_
     rotate_left
     refine zS QX ?_;refine Qe ?_;refine zD d ?_;refine qd 2 U ?_;refine zL ZK ?_
     all_goals
      refine Qe ?_;refine zD d ?_;refine qd 3 U ?_;refine zV (VK U U) ?_;refine Qe ?_;refine zD d ?_;refine qd 4 U ?_;refine zV (ZU U U (fun hg=>by rw [Zr f];omega)) ?_;refine Qe ?_;refine zD d ?_;refine qd 6 U ?_;refine zS QX ?_;refine Qe ?_;refine zD d ?_;refine QH kA ?_;refine QP ?_
      first | exact key.out | exact Z8 key
    refine zL ZK ?_;refine Qe ?_;refine zD d ?_;refine Zv 0 3 U U kA ?_ ?_
    focus
     refine zL ZK ?_;refine Qe ?_;refine zD d ?_;refine Zv 3 5 U U kA ?_ ?_
     ·refine zV (VK U U) ?_;refine Qe ?_;refine zD d ?_;refine Zv 4 5 U U kA ?_ ?_
      focus
       refine zV (ZU U U (fun hg=>by rw [Zr f];omega)) ?_;refine Qe ?_;refine zD d ?_;refine qd 5 U ?_;refine zS QX ?_
      rotate_left
      refine zS QX ?_;refine Qe ?_;refine zD d ?_;refine qd 4 U ?_;refine zV (ZU U U (fun hg=>by rw [Zr f];omega)) ?_
      all_goals
       refine Qe ?_;refine zD d ?_;refine qd 6 U ?_;refine zS QX ?_;refine Qe ?_;refine zD d ?_;refine QH kA ?_;refine QP ?_
       first | exact key.out | exact Z8 key
     refine zS QX ?_;refine Qe ?_;refine zD d ?_;refine qd 3 U ?_;refine zV (VK U U) ?_;refine Qe ?_;refine zD d ?_;refine qd 4 U ?_;refine zV (ZU U U (fun hg=>by rw [Zr f];omega)) ?_
    rotate_left
    refine zV (VK U U) ?_;refine Qe ?_;refine zD d ?_;refine Zv 0 4 U U kA ?_ ?_
    ·refine zL ZK ?_;refine Qe ?_;refine zD d ?_;refine Zv 4 5 U U kA ?_ ?_
     focus
      refine zV (ZU U U (fun hg=>by rw [Zr f];omega)) ?_;refine Qe ?_;refine zD d ?_;refine qd 5 U ?_;refine zS QX ?_
     rotate_left
     refine zS QX ?_;refine Qe ?_;refine zD d ?_;refine qd 4 U ?_;refine zV (ZU U U (fun hg=>by rw [Zr f];omega)) ?_
     all_goals
      refine Qe ?_;refine zD d ?_;refine qd 6 U ?_;refine zS QX ?_;refine Qe ?_;refine zD d ?_;refine QH kA ?_;refine QP ?_
      first | exact key.out | exact Z8 key
    refine zV (ZU U U (fun hg=>by rw [Zr f];omega)) ?_;refine Qe ?_;refine zD d ?_;refine qd 0 U ?_;refine zL ZK ?_;refine Qe ?_;refine zD d ?_;refine qd 5 U ?_;refine zS QX ?_
    all_goals
     refine Qe ?_;refine zD d ?_;refine qd 6 U ?_;refine zS QX ?_;refine Qe ?_;refine zD d ?_;refine QH kA ?_;refine QP ?_
     first | exact key.out | exact Z8 key
   refine zL ZK ?_;refine Qe ?_;refine zD d ?_;refine WG 0 1 3 U U U kA ?_ ?_ ?_
   ·refine zL ZK ?_;refine Qe ?_;refine zD d ?_;refine Zv 1 3 U U kA ?_ ?_
    focus
     refine zL ZK ?_;refine Qe ?_;refine zD d ?_;refine Zv 3 5 U U kA ?_ ?_
     ·refine zV (VK U U) ?_;refine Qe ?_;refine zD d ?_;refine Zv 4 5 U U kA ?_ ?_
      focus
       refine zV (ZU U U (fun hg=>by rw [Zr f];omega)) ?_;refine Qe ?_;refine zD d ?_;refine qd 5 U ?_;refine zS QX ?_
      rotate_left
      refine zS QX ?_;refine Qe ?_;refine zD d ?_;refine qd 4 U ?_;refine zV (ZU U U (fun hg=>by rw [Zr f];omega)) ?_
      all_goals
       refine Qe ?_;refine zD d ?_;refine qd 6 U ?_;refine zS QX ?_;refine Qe ?_;refine zD d ?_;refine QH kA ?_;refine QP ?_
       first | exact key.out | exact Z8 key
     refine zS QX ?_;refine Qe ?_;refine zD d ?_;refine qd 3 U ?_;refine zV (VK U U) ?_;refine Qe ?_;refine zD d ?_;refine qd 4 U ?_;refine zV (ZU U U (fun hg=>by rw [Zr f];omega)) ?_
    rotate_left
    refine zV (VK U U) ?_;refine Qe ?_;refine zD d ?_;refine qd 1 U ?_;refine zL ZK ?_;refine Qe ?_;refine zD d ?_;refine Zv 4 5 U U kA ?_ ?_
    focus
     refine zV (ZU U U (fun hg=>by rw [Zr f];omega)) ?_;refine Qe ?_;refine zD d ?_;refine qd 5 U ?_;refine zS QX ?_
    rotate_left
    refine zS QX ?_;refine Qe ?_;refine zD d ?_;refine qd 4 U ?_;refine zV (ZU U U (fun hg=>by rw [Zr f];omega)) ?_
    all_goals
     refine Qe ?_;refine zD d ?_;refine qd 6 U ?_;refine zS QX ?_;refine Qe ?_;refine zD d ?_;refine QH kA ?_;refine QP ?_
     first | exact key.out | exact Z8 key
   ·refine zL ZK ?_;refine Qe ?_;refine zD d ?_;refine Zv 0 3 U U kA ?_ ?_
    focus
     refine zL ZK ?_;refine Qe ?_;refine zD d ?_;refine Zv 3 5 U U kA ?_ ?_
     ·refine zV (VK U U) ?_;refine Qe ?_;refine zD d ?_;refine Zv 4 5 U U kA ?_ ?_
      focus
       refine zV (ZU U U (fun hg=>by rw [Zr f];omega)) ?_;refine Qe ?_;refine zD d ?_;refine qd 5 U ?_;refine zS QX ?_
      rotate_left
      refine zS QX ?_;refine Qe ?_;refine zD d ?_;refine qd 4 U ?_;refine zV (ZU U U (fun hg=>by rw [Zr f];omega)) ?_
      all_goals
       refine Qe ?_;refine zD d ?_;refine qd 6 U ?_;refine zS QX ?_;refine Qe ?_;refine zD d ?_;refine QH kA ?_;refine QP ?_
       first | exact key.out | exact Z8 key
     refine zS QX ?_;refine Qe ?_;refine zD d ?_;refine qd 3 U ?_;refine zV (VK U U) ?_;refine Qe ?_;refine zD d ?_;refine qd 4 U ?_;refine zV (ZU U U (fun hg=>by rw [Zr f];omega)) ?_
    rotate_left
    refine zV (VK U U) ?_;refine Qe ?_;refine zD d ?_;refine Zv 0 4 U U kA ?_ ?_
    ·refine zL ZK ?_;refine Qe ?_;refine zD d ?_;refine Zv 4 5 U U kA ?_ ?_
     focus
      refine zV (ZU U U (fun hg=>by rw [Zr f];omega)) ?_;refine Qe ?_;refine zD d ?_;refine qd 5 U ?_;refine zS QX ?_
     rotate_left
     refine zS QX ?_;refine Qe ?_;refine zD d ?_;refine qd 4 U ?_;refine zV (ZU U U (fun hg=>by rw [Zr f];omega)) ?_
     all_goals
      refine Qe ?_;refine zD d ?_;refine qd 6 U ?_;refine zS QX ?_;refine Qe ?_;refine zD d ?_;refine QH kA ?_;refine QP ?_
      first | exact key.out | exact Z8 key
    refine zV (ZU U U (fun hg=>by rw [Zr f];omega)) ?_;refine Qe ?_;refine zD d ?_;refine qd 0 U ?_;refine zL ZK ?_;refine Qe ?_;refine zD d ?_;refine qd 5 U ?_;refine zS QX ?_
    all_goals
     refine Qe ?_;refine zD d ?_;refine qd 6 U ?_;refine zS QX ?_;refine Qe ?_;refine zD d ?_;refine QH kA ?_;refine QP ?_
     first | exact key.out | exact Z8 key
   refine zV (VK U U) ?_;refine Qe ?_;refine zD d ?_;refine Zv 0 1 U U kA ?_ ?_
   ·refine zL ZK ?_;refine Qe ?_;refine zD d ?_;refine qd 1 U ?_;refine zL ZK ?_;refine Qe ?_;refine zD d ?_;refine Zv 4 5 U U kA ?_ ?_
    focus
     refine zV (ZU U U (fun hg=>by rw [Zr f];omega)) ?_;refine Qe ?_;refine zD d ?_;refine qd 5 U ?_;refine zS QX ?_
    rotate_left
    refine zS QX ?_;refine Qe ?_;refine zD d ?_;refine qd 4 U ?_;refine zV (ZU U U (fun hg=>by rw [Zr f];omega)) ?_
    all_goals
     refine Qe ?_;refine zD d ?_;refine qd 6 U ?_;refine zS QX ?_;refine Qe ?_;refine zD d ?_;refine QH kA ?_;refine QP ?_
     first | exact key.out | exact Z8 key
   refine zL ZK ?_;refine Qe ?_;refine zD d ?_;refine Zv 0 4 U U kA ?_ ?_
   ·refine zL ZK ?_;refine Qe ?_;refine zD d ?_;refine Zv 4 5 U U kA ?_ ?_
    focus
     refine zV (ZU U U (fun hg=>by rw [Zr f];omega)) ?_;refine Qe ?_;refine zD d ?_;refine qd 5 U ?_;refine zS QX ?_
    rotate_left
    refine zS QX ?_;refine Qe ?_;refine zD d ?_;refine qd 4 U ?_;refine zV (ZU U U (fun hg=>by rw [Zr f];omega)) ?_
    all_goals
     refine Qe ?_;refine zD d ?_;refine qd 6 U ?_;refine zS QX ?_;refine Qe ?_;refine zD d ?_;refine QH kA ?_;refine QP ?_
     first | exact key.out | exact Z8 key
   refine zV (ZU U U (fun hg=>by rw [Zr f];omega)) ?_;refine Qe ?_;refine zD d ?_;refine qd 0 U ?_;refine zL ZK ?_;refine Qe ?_;refine zD d ?_;refine qd 5 U ?_;refine zS QX ?_;refine Qe ?_;refine zD d ?_;refine qd 6 U ?_;refine zS QX ?_;refine Qe ?_;refine zD d ?_;refine QH kA ?_;refine QP ?_
   first | exact key.out | exact Z8 key
  rw [show ((a:Int)).tmod (znQ (b:Int) 1)=((a % b:Nat):Int) by rw [Zr f,zjy]];refine Qa<|zR ?_;refine zL ZK ?_;refine zC<|zN ?_;refine zI ?_ ?_<;>intro y
  ·have x:a % b=0:=(by have h:=y;simp only [jW] at h;omega);have r:(i++[a])++[b]<+:zfy D C:=(by rw [q,zeB j kB x,js];exact List.prefix_rfl);refine zR<|zM ?_;refine zL ZK ?_;refine zgS (vs:=[_]) (Post:=fun t V T=>if t then J ((i++[a])++[b]) V T else Jx ((i++[a])++[b]) V T) U U U U (hY (i++[a]) b _ _ r (M.trans u) N) ?_;rintro t3 V T W P;refine zN<|Qq<|Qn<|Qb<|Qn ?_
   first
   | (refine VQ rfl (fun w Q=>⟨_,V,T,U,s.trans (u.trans W),Q.drop,?_⟩);cases t3 with | true=>exact .inl (by rw [q,zeB j kB x];simpa using P) | false=>exact .inr ⟨_,r,P⟩)
  have x:a % b≠0:=(by have h:=y;simp only [OL,Bb] at h;omega);refine Qm<|Qg ?_;exact zbA U U U _ (zBY 186 G K (b) (((a % b:Nat):Int))) ⟨a % b,A8 _ f,b,a % b,i++[a],U,U,U,s.trans u,N,by rw [q,zg3 j kB x,js];rfl,kB,kB,by have:=A8 a f;omega⟩ kc .refl
 refine Qy<|Qf<|Qf<|Qj ?_
 first
 | (refine JO (VQ rfl (fun w Q=>⟨_,B,F,U,s.trans u,Q.drop,?_⟩));by_cases j:a=0;(obtain ⟨e1,e2⟩:=a3 (by simp [ZH,j]);subst e1;subst e2;subst j;exact .inl (by rw [q,zfC,jw];exact O));(have ht:t=false:=(by simp [j] at o;exact o);subst ht;exact .inr ⟨_,zoh q j,z (by simp [ZH];exact j)⟩))
theorem zIC (I:Qu)(a b:Nat)(G:0<b)(u:a<=9223372036854775807)(y:b<=9223372036854775807):kf 259 [.int .u64 a,.int .u64 b] I (.int .u64 (Nat.gcd a b:Nat)):=by
 intro g H w r;refine zhn Tryz.func259 U Tryz.ntmps259 U r ?_;have i:=zJH I;refine zR ?_;refine Qv zCK U U (fun f=>?_);refine zN<|Qk<|zR<|zM ?_;refine zC<|zN ?_;refine zI ?_ ?_<;>intro z
 ·simp at z;omega
 refine Qm<|Qa<|zR<|zM ?_;refine zS QX ?_;refine zN<|Qk<|zR<|zM ?_;refine zM ?_;refine zpc [_,_] U zw8 .nil (zGI I _ _) ?_;rintro J t O h ⟨rfl,B,C,rfl,rfl⟩;have i:=i.trans h;refine zN<|Ql ?_;refine zaR (ms:=[]) (K:=zBY 186 B C (a) (b)) (L:=[(f,.cells #[.int .u64 b] 186 (0,0))]) (enc:=fun n:Nat=>.int .u64 n) (xs:=zfy a b) (fun d p s=>s=[(f,.cells #[.int .u64 ((d.getLastD b:Nat):Int)] 186 (0,0))]) (fun _ _ _ _=>False) (fun d x A D q=>A=[(4,Zm f),(5,.int .u64 x)]/\q=[(f,.cells #[.int .u64 ((d.getLastD b:Nat):Int)] 186 (0,0))]) U zAI (zrn _ a b B C G u y) U U ?_ ?_ ?_ ?_
 ·rintro l d x t o M j h rfl;refine Qh<|zA<|Qe ?_;exact zfd _ ⟨zJH _,U,U⟩ kc
 ·rintro l d x A D q N j F ⟨rfl,rfl⟩;refine Ql<|Qh<|zM ?_;refine zS QX ?_;refine Qe<|Qg ?_;exact zcb ⟨zJH _,by rw [zlE];rfl⟩ .refl
 ·rintro E t o h rfl;have i:=i.trans h;refine Qg<|Qa<|zR ?_;refine zL ZK ?_;refine zS QX ?_;refine zN<|Qq ?_;exact Wz (L:=[(f,_)]) (fun a u w r=>zIq U U ZK (QO.h0 U) a u w r) (fun w r=>⟨by rw [zru b (jn _) kB (fun _=>U)],(r.mono i).drop⟩)
 rintro c E d t o h j hF;exact hF.elim
theorem zCR (I:Qu)(n d:Int)(b: -1073741824<=n/\n<=1073741824)(a:1<=d/\d<=1073741824):kf 259 [.int .u64 (zcV n),.int .u64 (IntKind.u64.wrap d)] I (.int .u64 (zlK n d)):=by have h0:0<=zcV n/\zcV n<=1073741824:=(by unfold zcV;split<;>omega);have h:=zIC I (zcV n).toNat d.toNat kB kB kB;rw [zpZ kB];rw [AT h0.1,AT kB,zzm,AT kB] at h;exact h
theorem zbk (I:Qu)(n d:Int):kf 253 [WN (n) (d)] I (.int .i64 (zBP n d)):=by
 intro g H w f;refine qe Tryz.func253 Tryz.ntmps253 f ?_;refine zR ?_;refine QU U U U (fun b=>?_);refine zA<|zN<|Qk<|Qk ?_;refine ZW mixed kA ?_;refine zq (Qi U Y4) ?_;refine zq (Qc U Qr (fun hg=>by exact QO.h0 U)) ?_;refine zq (Qx U U U) ?_;refine zq (Qd U) ?_;refine Ym 3 U U U ?_;refine zj (Qi U Y4) ?_;refine zj (Qc U Qr (fun hg=>by exact QO.h0 U)) ?_;refine zj (Qx U U U) ?_;refine Jm U U U U U ?_;refine zq (Qd U) ?_;refine Ym 8 U U U ?_;refine zj (Qi U YB) ?_;refine zj (Qc U Qr (fun hg=>by exact QO.h0 U)) ?_;refine zj (Qx U U U) ?_;refine Jm U U U U U ?_;refine zq (Qd U) ?_;refine Ym 13 U U U ?_;refine zj (Qi U YB) ?_;refine zj (Qc U Qr (fun hg=>by exact QO.h0 U)) ?_;refine zj (Qx U U U) ?_;refine Jm U U U U U ?_;refine zq (Qd U) ?_;refine Ym 18 U U U ?_;refine zj (Qi U YB) ?_;refine zj (Qc U Qr (fun hg=>by exact QO.h0 U)) ?_;refine Va (cap:=[]) (vs:=[_]) U U zzj (fun hg=>zIK I n (by simp [ZH] at hg;omega)) (.some U U U U gbf) U U ?_;refine zj (Qi U Y4) ?_;refine zj (Qc U Qr (fun hg=>by exact QO.h0 U)) ?_;refine zj (Uy U U0) ?_;refine Va (cap:=[]) (vs:=[_,_]) U U zAM (fun hg=>zCR I n d (by simp [ZH] at hg;omega) (by simp [ZH] at hg;omega)) (.some U U U U gbf) U U ?_;refine zj (Qx U U U) ?_;refine Jm U U U U U ?_;refine ZX ?_;refine Qa ?_;refine zI ?_ ?_<;>intro a
 ·refine zR<|zA<|zN<|Qq<|Qb ?_
  first
  | exact zr U U (by unfold zBP;rw [zA6 a];rfl)
 refine Qm<|Qa<|zR<|zA<|zN<|Qq ?_
 first
 | exact zr U U (by unfold zBP;rw [zrc a];rfl)
theorem zmA (I:Qu)(d b i f:Int):kf 237 [WN (d) (b),WN (i) (f)] I (.tuple #[.int .i64 (znp d b i f),.int .i64 (zqV d b i f)]):=by
 intro g H w l;refine qe Tryz.func237 Tryz.ntmps237 l ?_;refine zR ?_;refine QU U U U (fun n=>?_);refine QU U U U (fun o=>?_);refine zA ?_;refine zA<|zN<|Qk<|zR ?_;refine zV (Qo U Ys (fun hg=>by exact Cells.g1) U) ?_;refine qcV (vs:=[_]) U ze9 (zbk I _ _) ?_;refine zC ?_;refine zM ?_;refine QI 3 U U U ?_;refine zJ (Qo U Ys (fun hg=>by exact Cells.g0) U) ?_;refine qf (vs:=[_]) U ze9 (fun hg=>zbk I _ _) ?_;refine zJ (Qx U U U) ?_;refine Q5 U U U U U ?_;refine zN ?_;refine zI ?_ ?_<;>intro a
 focus
  have j:(K7 d b&&K7 i f)=false:=(by have h:=a;rw [zeR,jZ] at h;exact h);refine zR<|zA ?_;refine zA<|zN<|Qq<|Qb ?_
 rotate_left
 have j:(K7 d b&&K7 i f)=true:=(by have h:=a;rw [zeR,OC] at h;exact h);have ⟨p,q⟩:=zag (ji .. ▸ j).1;have ⟨r,s⟩:=zag (ji .. ▸ j).2;refine Qm<|Qa<|zR ?_;refine zF YB ?_;refine zL Qr ?_;refine zF Y4 ?_;refine zL Qr ?_;refine zV (Zf U U U (fun _=>by exact zlq kB kB)) ?_;refine zF YB ?_;refine zL Qr ?_;refine zF Y4 ?_;refine zL Qr ?_;refine zV (Zf U U U (fun _=>by exact zlq kB kB)) ?_;refine qcV (vs:=[_,_]) U ziF (zsr I _ _) ?_;refine zA ?_;refine zA<|zN<|Qq ?_
 all_goals
  exact QY U U U (fun w l=>⟨by unfold znp zqV;rw [j];rfl,l.drop⟩)
theorem zoI (I:Qu)(b a f d:Int):kf 203 [WN (b) (a),WN (f) (d)] I (.bool (XJ b a f d)):=by intro g H w j;refine qe Tryz.func203 Tryz.ntmps203 j ?_;refine zR ?_;refine QU U U U (fun h=>?_);refine QU U U U (fun i=>?_);refine zA ?_;refine zN (zR ?_);refine zV (Qo U Ys (fun hg=>by exact Cells.g1) U) ?_;refine zV (Qo U Ys (fun hg=>by exact Cells.g0) U) ?_;refine qcV (vs:=[_,_]) U zqD (zmA I _ _ _ _) ?_;refine zM ?_;refine zE ?_;refine zE ?_;refine zA ?_;refine zA ?_;refine zN (zR ?_);refine zM ?_;refine zC ?_;refine zM ?_;refine Qw 2 U U U ?_;refine zK (Qd U) ?_;refine zK (Qx U U U) ?_;refine QC U U U U U ?_;refine zM ?_;refine Qw 6 U U U ?_;refine zK (Qi U YB) ?_;refine zK (Qc U Qr (fun hg=>by exact QO.h1 U)) ?_;refine zK (Qx U U U) ?_;refine QC U U U U U ?_;refine zM ?_;refine Qw 11 U U U ?_;refine zK (Qi U YB) ?_;refine zK (Qc U Qr (fun hg=>by exact QO.h0 U)) ?_;refine zK (Qi U Y4) ?_;refine zK (Qc U Qr (fun hg=>by exact QO.h0 U)) ?_;refine zK (Qx U U U) ?_;refine QC U U U U U ?_;refine zA (zN (Qq ?_));exact zr U U (by rw [<-zhg])
theorem Yh (I:Qu)(n b a:Int):kf 202 [.int .i64 n,.int .i64 b,.int .i64 a] I (.bool (Za n b a)):=by intro g H w d;refine qe Tryz.func202 Tryz.ntmps202 d ?_;refine zR (zA ?_);refine zN (zR ?_);refine zM ?_;refine zM ?_;refine zC ?_;refine zM ?_;refine Qw 3 U U U ?_;refine zK (Qd U) ?_;refine zK (Qd U) ?_;refine zK (Qx U U U) ?_;refine QC U U U U U ?_;refine zA (zN (Qq ?_));exact zr U U kL
theorem zzM (I:Qu)(x:Sg):kf 154 [VD x] I (.bool (frm x)):=by intro g H w b;refine qe Tryz.func154 Tryz.ntmps154 b ?_;refine zR ?_;refine QU U U U (fun a=>?_);refine zA ?_;refine zN (zR ?_);refine zF Zu ?_;refine zL Qr ?_;refine qcV (vs:=[_,_,_]) U YV (Yh I _ _ _) ?_;refine zM ?_;refine Qw 3 U U U ?_;refine zK (Qi U Vm) ?_;refine zK (Qc U Qr (fun hg=>by exact QO.h0 U)) ?_;refine qg (vs:=[_,_,_]) U YV (fun hg=>Yh I _ _ _) ?_;refine QC U U U U U ?_;refine zM ?_;refine Qw 8 U U U ?_;refine zK (Qi U Vn) ?_;refine zK (Qc U Qr (fun hg=>by exact QO.h0 U)) ?_;refine qg (vs:=[_,_,_]) U YV (fun hg=>Yh I _ _ _) ?_;refine QC U U U U U ?_;refine zM ?_;refine Qw 13 U U U ?_;refine zK (Qi U Ur) ?_;refine zK (Qc U Qr (fun hg=>by exact QO.h0 U)) ?_;refine qg (vs:=[_,_,_]) U YV (fun hg=>Yh I _ _ _) ?_;refine QC U U U U U ?_;refine zM ?_;refine Qw 18 U U U ?_;refine zK (Qi U YP) ?_;refine zK (Qc U Qr (fun hg=>by exact QO.h0 U)) ?_;refine qg (vs:=[_,_,_]) U YV (fun hg=>Yh I _ _ _) ?_;refine QC U U U U U ?_;refine zM ?_;refine Qw 23 U U U ?_;refine zK (Qi U Vr) ?_;refine zK (Qc U Qr (fun hg=>by exact QO.h0 U)) ?_;refine qg (vs:=[_,_,_]) U YV (fun hg=>Yh I _ _ _) ?_;refine QC U U U U U ?_;refine zM ?_;refine Qw 28 U U U ?_;refine zK (Qi U Vq) ?_;refine zK (Qc U Qr (fun hg=>by exact QO.h0 U)) ?_;refine qg (vs:=[_,_,_]) U YV (fun hg=>Yh I _ _ _) ?_;refine QC U U U U U ?_;refine zM ?_;refine Qw 33 U U U ?_;refine zK (Qi U Vj) ?_;refine zK (Qc U Qr (fun hg=>by exact QO.h0 U)) ?_;refine qg (vs:=[_,_,_]) U YV (fun hg=>Yh I _ _ _) ?_;refine QC U U U U U ?_;refine zM ?_;refine Qw 38 U U U ?_;refine zK (Qi U Vo) ?_;refine zK (Qc U Qr (fun hg=>by exact QO.h0 U)) ?_;refine qg (vs:=[_,_,_]) U YV (fun hg=>Yh I _ _ _) ?_;refine QC U U U U U ?_;refine zM ?_;refine Qw 43 U U U ?_;refine zK (Qi U Vl) ?_;refine zK (Qc U Qr (fun hg=>by exact QO.h0 U)) ?_;refine qg (vs:=[_,_,_]) U YV (fun hg=>Yh I _ _ _) ?_;refine QC U U U U U ?_;refine zM ?_;refine Qw 48 U U U ?_;refine zK (Qi U Yy) ?_;refine zK (Qo U Ys (fun hg=>by exact Cells.s0 (vs:=[_,_]) U) U) ?_;refine zK (Qi U Yz) ?_;refine zK (Qo U Ys (fun hg=>by exact Cells.s0 (vs:=[_,_]) U) U) ?_;refine qg (vs:=[_,_]) U zpD (fun hg=>zoI I _ _ _ _) ?_;refine QC U U U U U ?_;refine zA (zN (Qq ?_));exact zr U U kL
variable{I:Qu}{o:Option Addr}{n c:Nat}
theorem zkm {f:List Sg}(b:Sl I 14 YA o n c f)(C:n<=100000):kf 102 [.slice o n c] I (.int .i64 (Kg f)):=by
 intro g H w A;refine qe Tryz.func102 Tryz.ntmps102 A ?_;refine zR<|zA<|zN<|Qk<|zR ?_;refine zM ?_;refine zQ Z7 ?_;refine zC<|zN ?_;refine zI ?_ ?_<;>intro r
 ·have h6:f.length>4096:=(by rw [b.len];simp at r;omega);refine zR<|zA<|zN<|Qq<|Qb ?_
  first
  | exact zr U U (by unfold Kg;rw [jb h6])
 have h6:¬f.length>4096:=(by rw [b.len];simp at r;omega);refine Qm<|Qa<|Qk<|zR<|zM ?_;refine zQ Z7 ?_;refine zM<|zN<|Ql ?_;refine zU [(0,_),(8,_),(9,_)] (fun T y u E p q=>∃ (k:Nat),u=n-k/\E=(10,.int .i64 k)::T/\I=p/\y=q/\k<=n/\(List.range k).all (skP f)=true) ?_ (h:=⟨0,U,U,U,U,jd _,U⟩);rintro u E p q ⟨k,rfl,rfl,rfl,rfl,B,i⟩;refine zR<|zC<|zN<|Qk ?_;refine zI ?_ ?_<;>intro j
 ·have a:k<n:=kd j;obtain ⟨x,t⟩:=b.at a;refine Qm<|Qa<|Qk<|Ql<|zR<|zM ?_;refine zV (Qs U U Z7 kE (fun hg=>kB)) ?_;refine zV (Qo U QQ (fun hg=>by exact zJI b t) U) ?_;refine Qv Kc U U (fun z=>?_);refine zA ?_;refine zh Zy ?_;refine zN<|Qk ?_;refine ZW mixed kA ?_;refine zq (Qo U QQ (fun hg=>by exact Cells.g0) U) ?_;refine YG (cap:=[]) (vs:=[_]) U U zqv (zzM I _) U U ?_;refine zq (ZT U) ?_;refine zq (Qd U) ?_;refine Ym 3 U U U ?_;refine zj (Qd U) ?_;refine zj (Qx U U U) ?_;refine zj (Qd U) ?_;refine Yd 6 U U U ?_;refine zk (Qd U) ?_;refine zk (Qd U) ?_;refine zk (Zf U U U (fun hg=>kB)) ?_;refine zk (Qs U U Z7 kE (fun hg=>by (simp [ZH] at hg;omega))) ?_;refine zk (Qi U Zu) ?_;refine zk (Qc U Qr (fun hg=>by exact zJA (k:=((k:Int)-1).toNat) b (QE (d:=Yc) b.len (by simp [ZH] at hg;omega)) U)) ?_;refine zk (Qi U Zu) ?_;refine zk (Qc U Qr (fun hg=>by exact QO.h0 U)) ?_;refine zk (Qx U U U) ?_;refine UX U U U (.some U U U U gbf) U U ?_;refine Jm U U U U U ?_;refine ZX ?_;refine Qa ?_;refine zI ?_ ?_<;>intro l
  ·refine zR<|zA<|zN<|Qq<|Qn<|Qb<|Qb<|Qn ?_;refine Qb ?_
   first
   | exact zr U U (by unfold Kg skB;rw [ja h6,Y9 (k:=k) (by rw [b.len];exact a) (by rw [zbQ t,l];rfl)];rfl)
  refine Qm<|Qg<|Qa<|Qh<|zB ?_;refine zM<|Qe ?_;exact zm (h:=⟨n-(k+1),kB,k+1,U,U,U,U,kB,YT i (by rw [zbQ t,l];rfl)⟩)
 have s:n<=k:=kd j;refine Qy<|Qf<|Qf<|Qj<|Qa<|zR<|zA<|zN ?_;refine Qq ?_
 first
 | exact zr U U (by unfold Kg skB;rw [ja h6,b.len,show n=k by omega,i];rfl)
structure Wr where
 no:Int
 yr:Int
 rs:List Rd
def zmV (I:Qu)(o:Option Addr)(n c:Nat)(i:List Wt)(f:List Wr):Prop:=Sl I 3 zlz o n c i/\i.length=f.length/\∀ (k:Nat) (w:Wt) (x:Wr),i[k]? =some w->f[k]? =some x->w.no=x.no/\w.yr=x.yr/\Sl I 15 Kf w.a w.n w.c x.rs
def SlW (I:Qu)(o:Option Addr)(n c:Nat)(f:List Wr):Prop:=∃ i:List Wt,zmV I o n c i f
variable{p:Qu}{i:List Wt}{f:List Wr}
theorem zmV.mono (h:zmV I o n c i f)(a:HLe I p):zmV p o n c i f:=
 ⟨h.1.mono a,h.2.1,fun k w x h1 h2=>⟨(h.2.2 k w x h1 h2).1,(h.2.2 k w x h1 h2).2.1,(h.2.2 k w x h1 h2).2.2.mono a⟩⟩
theorem SlW.mono (h:SlW I o n c f)(a:HLe I p):SlW p o n c f:=by obtain ⟨i,h⟩:=h;exact ⟨i,h.mono a⟩
theorem zmV.len (h:zmV I o n c i f):f.length=n:=by rw [<-h.2.1];exact h.1.len
theorem SlW.len (h:SlW I o n c f):f.length=n:=by obtain ⟨i,h⟩:=h;exact h.len
variable{k:Nat}
theorem zmV.at (h:zmV I o n c i f)(g:k<n):∃ w x,i[k]? =some w/\f[k]? =some x/\w.no=x.no/\w.yr=x.yr/\Sl I 15 Kf w.a w.n w.c x.rs:=by obtain ⟨w,b⟩:=h.1.at g;have j:=h.len;obtain ⟨x,d⟩:∃ x,f[k]? =some x:=⟨_,jf kB⟩;exact ⟨w,x,b,d,h.2.2 k w x b d⟩
def zGl (f:List Wr):Bool:=decide (f.length<=5)&&f.all fun x=>decide (x.rs.length<=8)
theorem zDv (h:zmV I o n c i f):zuG i=zGl f:=by
 unfold zuG zGl;rw [h.2.1];congr 1;rw [jI,jk,jk];constructor
 ·intro g x q;obtain ⟨k,b,e⟩:=A7.1 q;obtain ⟨w,s,l,a,_,_,j⟩:=h.at (k:=k) (by rw [<-h.len];exact b);have:s=x:=by rw [jf b,e] at a;exact (Ob a).symm
  subst this;have:=g w (je l);rw [j.len];exact this
 ·intro g w l;obtain ⟨k,b,e⟩:=A7.1 l;obtain ⟨r,x,d,a,_,_,j⟩:=h.at (k:=k) (by rw [<-h.1.len];exact b);have:r=w:=by rw [jf b,e] at d;exact (Ob d).symm
  subst this;have:=g x (je a);rw [<-j.len];exact this
def Wb (x y:Sg):Bool:=x.id==y.id&&(x.role==y.role&&(x.bar==y.bar&&(x.mark==y.mark&&(x.kind==y.kind&&(x.side==y.side&&(x.dir==y.dir&&(x.level==y.level&&(x.size==y.size&&(x.wth==y.wth&&(x.fn==y.fn&&(x.fd==y.fd&&(x.tn==y.tn&&(x.td==y.td&&true)))))))))))))
theorem Un {x y:Sg}:Wb x y=true↔x=y:=by obtain ⟨t,u,w,z,A,B,C,D,E,a,b,d,g,h⟩:=x;obtain ⟨F,G,H,J,K,M,N,O,P,j,l,q,r,s⟩:=y;simp [Wb]
instance : DecidableEq Sg := fun a b => decidable_of_iff (Wb a b = true) Un
def zcR (r:Rd):Bool:=(r.lost&& !Wb r.sg Yc)||(!r.lost&&((r.sg.id != 0)||(Kg [r.sg] != 0)))
variable{r:Rd}
theorem zn6 (h:r.lost=true)(b:Bool)(h2:(!Wb r.sg Yc)=b):zcR r=b:=by unfold zcR;rw [h,h2];cases b<;>rfl
theorem zu3 (h:r.lost=false)(h2:(r.sg.id != 0)=true):zcR r=true:=by unfold zcR;rw [h,h2];rfl
theorem zva (h:r.lost=false)(h2:(r.sg.id != 0)=false):zcR r=(Kg [r.sg] != 0):=by unfold zcR;rw [h,h2];simp
theorem zq7 (r:Rd):(r.lost=true/\(!Wb r.sg Yc)=true)\/(r.lost=true/\(!Wb r.sg Yc)=false)\/(r.lost=false/\(r.sg.id != 0)=true)\/(r.lost=false/\(r.sg.id != 0)=false):=by cases r.lost<;>cases (!Wb r.sg Yc)<;>cases (r.sg.id != 0)<;>simp
def ziJ (l:Int)(x:Wr):Bool:=((decide (x.no<=l)||decide (x.no>1048576))||decide (x.yr<0))||decide (x.yr>3000)
def Uw:Int->List Wr->Bool
 | _,[]=>true
 | l,x::f=> !ziJ l x&&(!x.rs.any zcR&&Uw x.no f)
def WF (f:List Wr):Int:=if f.length>24 then 2 else if f.any (fun x=>decide (x.rs.length>64))=true then 2 else if Uw 0 f=true then 0 else 410
theorem zvS (h:f.length>24):WF f=2:=by unfold WF;rw [jb h]
theorem zuU (h:¬f.length>24)(h2:f.any (fun x=>decide (x.rs.length>64))=true):WF f=2:=by unfold WF;rw [ja h,jb h2]
theorem zds (h:¬f.length>24)(h2:f.any (fun x=>decide (x.rs.length>64))=false)(h3:Uw 0 f=false):WF f=410:=by unfold WF;rw [ja h,h2,h3];rfl
theorem zu2 (h:¬f.length>24)(h2:f.any (fun x=>decide (x.rs.length>64))=false)(h3:Uw 0 f=true):WF f=0:=by unfold WF;rw [ja h,h2,h3];rfl
variable{l:Int}{x:Wr}
theorem zgF (b:f[k]? =some x)(a:ziJ l x=true):Uw l (f.drop k)=false:=by rw [ZA b];unfold Uw;rw [a];rfl
variable{j:Nat}
theorem zbs (d:f[k]? =some x)(b:x.rs[j]? =some r)(a:zcR r=true):Uw l (f.drop k)=false:=by rw [ZA d];unfold Uw;rw [show x.rs.any zcR=true from jD.2 ⟨r,je b,a⟩];simp
theorem zc5 (d:f[k]? =some x)(a:ziJ l x=false)(b:x.rs.any zcR=false):Uw l (f.drop k)=Uw x.no (f.drop (k+1)):=by rw [ZA d];show (!ziJ l x&&(!x.rs.any zcR&&Uw x.no (f.drop (k+1))))=_;rw [a,b];rfl
theorem zfX (h:f.length<=k):Uw l (f.drop k)=true:=by rw [Or h];rfl
end
end Go.Proofs.YtodakphagkommaaGreatDoor
namespace Go.Kn
section
open Go
section
variable {C:Cx} {Q:Exit->Act->World->Prop} {E G:Env} {I B q:Qu} {l t g L R:Loc} {f:Array Oper} {rest:List Oper} {S:GS}
variable {p:Option Nat} {d:Nat} {r:TypeId} {n:String} {s:Array Edge} {A:Option (Nat×Bool)} {x y z:Operand} {a b c:Int}
theorem zix {k:IntKind}{h:Array TypeId}(o:QB S E x=some (.int k a))(u:QB S E y=some (.int k b))(D:QB S E z=some (.int k c)):Q2 C S E I l ⟨p,.call ⟨.builtin .min, #[x,y,z],h⟩,r,n,s,A⟩ (.int k (KY (KY a b) c)):=
 .of kF fun F w i hg j H=>by
  simp only [execOp,resolve,OF,jF,Ah,Qp i hg j o,Qp i hg j u,Qp i hg j D,jg,jp,Result.andThen,invoke,builtin];rfl
def zrC (u:Value)(want:Bool):Bool:=match u with | .bool b=>b != want | _=>true
theorem zf4 {j w:Nat}{i:Bool}{J o:Oper}{u:Value}{N:Nat}{D:List Deferred}{a:Act}(hg:o.guard=some (j,i))(H:f[j]? =some J)(F:J.dst=some w)(M:UQ N D E a)(O:J9 E w=some u)(P:zrC u i=true):Region.wanted o (yielded f a.tmps)=false:=by
 have h:=M.env _ _ O;simp only [Region.wanted,hg]
 cases u with
 | bool K=>
  rw [U2 H F h];cases K<;>cases i<;>first | rfl | cases P
 | _=>
  have T:yielded f a.tmps j=none:=by
   unfold yielded;simp only [H,Option.bind_some,F]
   cases e:a.tmps[w]? with
   | none=>rfl
   | some v=>
    simp [e] at h;rw [h]
  rw [T];rfl
theorem Q7 {H:Op}{j dj:Nat}{i:Bool}{F:Oper}{u:Value}(M:f[j]? =some F)(K:F.dst=some dj)(O:J9 E dj=some u)(P:zrC u i=true)(J:Nat.blt d C.N=true)
  (h:XO C Q f rest [] ((d,undef)::E) I l):XO C Q f (⟨some d,H,r,n,s,some (j,i)⟩::rest) [] E I l:=by
 intro a w D hg T;simp only [wpListIn];rw [zf4 (o:=⟨some d,H,r,n,s,some (j,i)⟩) rfl M K D O P];simp only [jy,Oa];exact ⟨fun _ _=>trivial,h _ _ (D.put J undef) trivial T⟩
theorem zsd (i:Nat){j O fuel:Nat}{F:Bool}{W:Oper}{D:Array Bool}{M:Op}{u:Value}(T:f[i]? =some ⟨some d,M,r,n,s,some (j,F)⟩)(hj:f[j]? =some W)(hd:W.dst=some O)(K:J9 E O=some u)(hu:zrC u F=true)
  (H:∀ c,M≠ .defer c)(Z:Nat.blt d C.N=true)
  (hs:Region.noSelect f=true)(J:Region.free .any f D i=true)(hr:(Region.ready .any f D).contains i=true)(hQ:W0 Q)(Y:HLe q I)(hl:UR g l)
  (h:XD C Q f q g fuel (D.setIfInBounds i true) [] ((d,undef)::E) I l):XD C Q f q g (fuel+1) D [] E I l:=by
 intro a w P hg V;have hp:=P.put Z undef;refine U6 (v:=undef) T H (BK hs) (fun c a w=>hQ c a d _ w) fuel D a w (B9 T J) (by simpa using hr) ?_ ((V.mono Y).subL hl) (h _ _ hp trivial V);exact .inr ⟨by rw [zf4 (o:=⟨some d,M,r,n,s,some (j,F)⟩) rfl hj hd P K hu],U⟩
theorem zW (i J:Nat){j fuel:Nat}{w:Bool}{K:Oper}{o:Array Bool}{M:Op}{u:Value}(O:HLe q I)(h:XD C Q f q g fuel (o.setIfInBounds i true) [] ((d,undef)::E) I l)(W:f[i]? =some ⟨some d,M,r,n,s,some (j,w)⟩:=by exact U)(Y:f[j]? =some K:=by exact U)(V:K.dst=some J:=by exact U)(H:J9 E J=some u:=by exact U)(hu:zrC u w=true:=by exact U)
  (D:∀ c,M≠ .defer c:=by (intro c e;cases e))(P:Nat.blt d C.N=true:=by exact U)(hs:Region.noSelect f=true:=by kernel_rfl)(F:Region.free .any f o i=true:=by kernel_rfl)(hr:(Region.ready .any f o).contains i=true:=by kernel_rfl)(T:W0 Q:=by first | exact zoO | (repeat (first | exact np_body | with_reducible refine np_then ?_ | with_reducible refine np_block ?_)))(Z:UR g l:=by repeat (first | exact .refl | exact Wq | refine .keep ?_ | refine .drop ?_ | refine ZN ?_)):XD C Q f q g (fuel+1) o [] E I l:=zsd i W Y V H hu D P hs F hr T O Z h
end
end
end Go.Kn
namespace Go.Proofs.YtodakphagkommaaGreatDoor
section
open Go Go.Kn Go.Proofs
theorem XC:km 65 3:=.of kA
theorem Vy:kp 48 54 14 112:=.of kA
theorem Um:zII Tryz.prog 54 [.int,.int,.int,.int,.int,.int,.int,.int,.int,.int,.int,.int,.int,.int]:=⟨kA,kA,kA,kA⟩
theorem Wp:kh 65 0 0:=.of kA
theorem zfk:kh 65 1 1:=.of kA
theorem zis:ke 102:=.of Tryz.func102 kA kA
theorem znm:ki 65 3:=.of kA
theorem zwZ:kj 65 (.agg #[(.int .i64 0),(.int .i64 0),(.slice none 0 0)]):=.of kA
variable{I:Qu}{av:Option Addr}{n c:Nat}
theorem zEC {N:List Wr}(B:SlW I av n c N)(hn:n<=100000):kf 58 [.slice av n c] I (.int .i64 (WF N)):=by
 intro g H w hw;refine qe Tryz.func58 Tryz.ntmps58 hw ?_;have d:=zJH I;obtain ⟨ws,B⟩:=B;have hH:=B.1;have W:=B.len;refine zR<|zA<|zN<|Qk<|zR ?_;refine zM ?_;refine zQ Z9 ?_;refine zC<|zN ?_;refine zI ?_ ?_<;>intro C
 ·have h1:N.length>24:=(by rw [W];simp at C;omega);refine zR<|zA<|zN<|Qq<|Qb ?_;exact zp d U U (by rw [zvS h1])
 have h1:¬N.length>24:=(by rw [W];simp at C;omega);refine Qm<|Qa<|Qk<|zR<|zM ?_;refine zQ Z9 ?_;refine zM<|zN<|Ql ?_;refine zU [(0,_),(13,_),(14,_)] (fun T L0 M E I' i=>∃ (k:Nat),M=n-k/\E=(15,.int .i64 k)::T/\I=I'/\L0=i/\k<=n/\(N.take k).any (fun x=>decide (x.rs.length>64))=false) ?_ (h:=⟨0,U,U,U,U,jd _,U⟩);rintro M E I' i ⟨k,rfl,rfl,rfl,rfl,hk,p⟩;refine zR<|zC<|zN<|Qk ?_;refine zI ?_ ?_<;>intro D
 ·have s:k<n:=kd D;obtain ⟨w,x,hx,z,e1,e2,hR⟩:=B.at s;refine Qm<|Qa<|Qk<|Ql<|zR ?_;refine zV (zX Z9 hH) ?_;refine zV (Qo U XC (fun hg=>by exact zJI hH hx) U) ?_;refine Qv zwZ U U (fun a6=>?_);refine zh znm ?_;refine zN<|zR ?_;refine zF V4 ?_;refine zL UL ?_;refine zQ KW ?_;refine zC<|zN ?_;refine zI ?_ ?_<;>intro F
  ·have h2:N.any (fun x=>decide (x.rs.length>64))=true:=YN z (by rw [hR.len];have h:=F;simp at h ⊢;omega);refine zR<|zA<|zN<|Qq<|Qn<|Qb<|Qb<|Qn ?_;refine Qb ?_;exact zp d U U (by rw [zuU h1 h2])
  refine Qm<|Qg<|Qa<|Qh<|zB ?_;refine zM<|Qe ?_;exact zm (h:=⟨n-(k+1),kB,k+1,U,U,U,U,kB,Z3 z p (by rw [hR.len];have h:=F;simp at h ⊢;omega)⟩)
 have t:n<=k:=kd D;rw [QZ W t] at p;refine Qy<|Qf<|Qf<|Qj<|Qa<|zR<|zA<|zN ?_;refine Qk<|zR<|zM ?_;refine zQ Z9 ?_;refine zM<|zN<|Ql ?_;refine zU [(24,_),(25,_)] (fun T L0 M E I' i=>∃ (k:Nat) (l:Int),M=n-k/\E=(5,.int .i64 l)::(26,.int .i64 k)::T/\HLe I I'/\L0=i/\k<=n/\Uw 0 N=Uw l (N.drop k)) ?_ (h:=⟨0,0,U,U,zJH _,U,jd _,U⟩);rintro M E J2 i ⟨k,l,rfl,rfl,y,rfl,hk,q⟩;have B:=B.mono y;have hH:=hH.mono y;have d:=d.trans y;have O:=y;refine zR<|zC<|zN<|Qk ?_;refine zI ?_ ?_<;>intro G
 ·have s:k<n:=kd G;obtain ⟨w,x,hx,z,e1,e2,hR⟩:=B.at s;have a4:=hR.len;have a5:w.n<=64:=(by have:=jL.1 p x (je z);simp at this;omega);refine Qm<|Qa<|Qk<|Ql<|zR ?_;refine zV (zX Z9 hH) ?_;refine zV (Qo U XC (fun hg=>by exact zJI hH hx) U) ?_;refine Qv zwZ U U (fun a1=>?_);refine zh znm ?_;refine zN<|Qk<|zR ?_;refine zF Wp ?_;refine zL Qr ?_;refine zM ?_;refine zC ?_;refine zM ?_;refine QI 4 U U U ?_;refine zJ (Qi U Wp) ?_;refine zJ (Qc U Qr (fun hg=>by exact QO.h0 U)) ?_;refine zJ (Qx U U U) ?_;refine Q5 U U U U U ?_;refine zM ?_;refine QI 9 U U U ?_;refine zJ (Qi U zfk) ?_;refine zJ (Qc U Qr (fun hg=>by exact QO.h0 U)) ?_;refine zJ (Qx U U U) ?_;refine Q5 U U U U U ?_;refine zM ?_;refine QI 14 U U U ?_;refine zJ (Qi U zfk) ?_;refine zJ (Qc U Qr (fun hg=>by exact QO.h0 U)) ?_;refine zJ (Qx U U U) ?_;refine Q5 U U U U U ?_;refine zN ?_;refine zI ?_ ?_<;>intro J
  ·have Q:ziJ l x=true:=(by unfold ziJ;rw [<-e1,<-e2];exact J);refine zR<|zA<|zN<|Qq<|Qb<|Qn<|Qb<|Qb ?_;refine Qn<|Qb ?_;exact zp d U U (by rw [zds h1 p (q.trans (zgF z Q))])
  have Q:ziJ l x=false:=(by unfold ziJ;rw [<-e1,<-e2];exact J);refine Qm<|Qa<|zR ?_;refine zF Wp ?_;refine zL Qr ?_;refine zA ?_;refine zN<|zR ?_;refine zF V4 ?_;refine zL UL ?_;refine zQ KW ?_;refine zM<|zN<|Ql ?_;refine zU [(5,_),(24,_),(25,_),(26,_),(52,_),(53,_)] (fun T L0 M E I' i=>∃ (j:Nat),M=w.n-j/\E=(54,.int .i64 j)::T/\HLe J2 I'/\[(a1,.cells (zlz w).toArray 65 (0,0))]=i/\j<=w.n/\(x.rs.take j).any zcR=false) ?_ (h:=⟨0,U,U,zJH _,U,jd _,U⟩);rintro M E J3 i ⟨j,rfl,rfl,y,rfl,hj,Z⟩;have hR:=hR.mono y;have d:=d.trans y;have O:=O.trans y;have P:=y;refine zR<|zC<|zN<|Qk ?_;refine zI ?_ ?_<;>intro K
  ·have Y:j<w.n:=kd K;obtain ⟨r,hr⟩:=hR.at Y;refine Qm<|Qa<|Qk<|Ql<|zR ?_;refine zV (zX KW hR) ?_;refine zV (Qo U zb4 (fun hg=>by exact zJI hR hr) U) ?_;refine Qv zoG U U (fun a7=>?_);refine zh zfE ?_;refine zN<|Qk ?_;obtain ⟨a,u⟩ | ⟨a,u⟩ | ⟨a,u⟩ | ⟨a,u⟩:=zq7 r
   ·have o:=zn6 a true u;refine Qh ?_;refine zF JA ?_;refine zL K1 ?_;rw [a];refine zM ?_;refine QR (dj:=60) U U U ?_;refine zF V1 ?_;refine QR (dj:=60) U U U ?_;refine zV (Qo U QQ (fun hg=>by exact Cells.s0 (vs:=[_,_,_,_,_,_,_,_,_,_,_,_,_,_]) U) U) ?_;refine QR (dj:=60) U U U ?_;refine zV (QK (ps:=[]) [_,_,_,_,_,_,_,_,_,_,_,_,_,_] JI U U) ?_;refine QR (dj:=60) U U U ?_;refine zV (v:=.bool (!Wb r.sg Yc)) (zni U U Um U) ?_;rw [u];refine zV (Z2 U U U) ?_;refine zM ?_;refine Q7 (dj:=66) U U U U U ?_;refine Q7 (dj:=66) U U U U U ?_;refine Q7 (dj:=66) U U U U U ?_;refine Q7 (dj:=66) U U U U U ?_;refine Q7 (dj:=70) U U U U U ?_;refine Q7 (dj:=70) U U U U U ?_;refine Q7 (dj:=70) U U U U U ?_;refine Q7 (dj:=70) U U U U U ?_;refine Q7 (dj:=70) U U U U U ?_;refine Q7 (dj:=75) U U U U U ?_;refine Q7 (dj:=75) U U U U U ?_;refine Q7 (dj:=75) U U U U U ?_;refine Q7 (dj:=75) U U U U U ?_;refine Q7 (dj:=75) U U U U U ?_;refine Q7 (dj:=70) U U U U U ?_;refine Q7 (dj:=66) U U U U U ?_;refine zV (V6 U U U) ?_;refine zN ?_;refine zI ?_ ?_<;>intro f
    ·refine zR<|zA<|zN<|Qq<|Qn<|Qb<|Qb<|Qn ?_;refine Qn<|Qb<|Qb<|Qn<|Qb ?_;exact zp d U U (by rw [zds h1 p (q.trans (zbs z hr o))])
    cases f
   focus
    have o:=zn6 a false u;refine Qh ?_;refine zF JA ?_;refine zL K1 ?_;rw [a];refine zM ?_;refine QR (dj:=60) U U U ?_;refine zF V1 ?_;refine QR (dj:=60) U U U ?_;refine zV (Qo U QQ (fun hg=>by exact Cells.s0 (vs:=[_,_,_,_,_,_,_,_,_,_,_,_,_,_]) U) U) ?_;refine QR (dj:=60) U U U ?_;refine zV (QK (ps:=[]) [_,_,_,_,_,_,_,_,_,_,_,_,_,_] JI U U) ?_;refine QR (dj:=60) U U U ?_;refine zV (v:=.bool (!Wb r.sg Yc)) (zni U U Um U) ?_;rw [u];refine zV (Z2 U U U) ?_;refine zM ?_;refine QR (dj:=66) U U U ?_;refine zF JA ?_;refine QR (dj:=66) U U U ?_;refine zL K1 ?_;rw [a];refine QR (dj:=66) U U U ?_;refine zO ?_;refine QR (dj:=66) U U U ?_;refine zM ?_;refine Q7 (dj:=70) U U U U U ?_;refine Q7 (dj:=70) U U U U U ?_;refine Q7 (dj:=70) U U U U U ?_;refine Q7 (dj:=70) U U U U U ?_;refine Q7 (dj:=70) U U U U U ?_;refine Q7 (dj:=75) U U U U U ?_;refine Q7 (dj:=75) U U U U U ?_;refine Q7 (dj:=75) U U U U U ?_;refine Q7 (dj:=75) U U U U U ?_;refine Q7 (dj:=75) U U U U U ?_;refine Q7 (dj:=70) U U U U U ?_;refine QR (dj:=66) U U U ?_;refine zV (V6 U U U) ?_;refine zV (Z2 U U U) ?_;refine zN ?_;refine zI ?_ ?_<;>intro f
    ·cases f
   rotate_left
   ·have o:=zu3 a u;refine Qh ?_;refine zF JA ?_;refine zL K1 ?_;rw [a];refine zM ?_;refine Q7 (dj:=60) U U U U U ?_;refine Q7 (dj:=60) U U U U U ?_;refine Q7 (dj:=60) U U U U U ?_;refine Q7 (dj:=60) U U U U U ?_;refine zV (V6 U U U) ?_;refine zM ?_;refine QR (dj:=66) U U U ?_;refine zF JA ?_;refine QR (dj:=66) U U U ?_;refine zL K1 ?_;rw [a];refine QR (dj:=66) U U U ?_;refine zO ?_;refine QR (dj:=66) U U U ?_;refine zM ?_;refine QR (dj:=70) U U U ?_;refine zF V1 ?_;refine QR (dj:=70) U U U ?_;refine zF Zu ?_;refine QR (dj:=70) U U U ?_;refine zL Qr ?_;refine QR (dj:=70) U U U ?_;refine zC ?_;rw [u];refine QR (dj:=70) U U U ?_;refine zM ?_;refine Q7 (dj:=75) U U U U U ?_;refine Q7 (dj:=75) U U U U U ?_;refine Q7 (dj:=75) U U U U U ?_;refine Q7 (dj:=75) U U U U U ?_;refine Q7 (dj:=75) U U U U U ?_;refine QR (dj:=70) U U U ?_;refine zV (V6 U U U) ?_;refine QR (dj:=66) U U U ?_;refine zV (Z2 U U U) ?_;refine zV (Z2 U U U) ?_;refine zN ?_;refine zI ?_ ?_<;>intro f
    ·refine zR<|zA<|zN<|Qq<|Qn<|Qb<|Qb<|Qn ?_;refine Qn<|Qb<|Qb<|Qn<|Qb ?_;exact zp d U U (by rw [zds h1 p (q.trans (zbs z hr o))])
    cases f
   have o:=zva a u;refine Qh ?_;refine zF JA ?_;refine zL K1 ?_;rw [a];refine zM ?_;refine Q7 (dj:=60) U U U U U ?_;refine Q7 (dj:=60) U U U U U ?_;refine Q7 (dj:=60) U U U U U ?_;refine Q7 (dj:=60) U U U U U ?_;refine zV (V6 U U U) ?_;refine zM ?_;refine QR (dj:=66) U U U ?_;refine zF JA ?_;refine QR (dj:=66) U U U ?_;refine zL K1 ?_;rw [a];refine QR (dj:=66) U U U ?_;refine zO ?_;refine QR (dj:=66) U U U ?_;refine zM ?_;refine QR (dj:=70) U U U ?_;refine zF V1 ?_;refine QR (dj:=70) U U U ?_;refine zF Zu ?_;refine QR (dj:=70) U U U ?_;refine zL Qr ?_;refine QR (dj:=70) U U U ?_;refine zC ?_;rw [u];refine QR (dj:=70) U U U ?_;refine zM ?_;refine QR (dj:=75) U U U ?_;refine zF V1 ?_;refine QR (dj:=75) U U U ?_;refine zV (Qo U QQ (fun hg=>by exact Cells.s0 (vs:=[_,_,_,_,_,_,_,_,_,_,_,_,_,_]) U) U) ?_;refine QR (dj:=75) U U U ?_;refine zpb [(0,_)] [YA r.sg] Vy (fun A=>?_);refine Z5 (b:=A) (by repeat (first | exact Zb.here | apply Zb.there)) (fun I4 a0 a3=>?_);have d:=d.trans a0;have P:=P.trans a0;have a2:Sl I4 14 YA (some ⟨A,0,none⟩) 1 1 [r.sg]:=Sl.lit [r.sg] U Yp (show _=some (Obj.cells ([r.sg].flatMap YA).toArray 54 (0,0)) from a3);refine QR (dj:=75) U U U ?_;refine qcV (vs:=[_]) U zis (zkm a2 kC) ?_;refine QR (dj:=75) U U U ?_;refine zC ?_;refine QR (dj:=70) U U U ?_;refine zV (Z2 U U U) ?_;refine QR (dj:=66) U U U ?_;refine zV (Z2 U U U) ?_;refine zV (Z2 U U U) ?_;refine zN ?_;refine zI ?_ ?_<;>intro f
   ·have o:=o.trans f;refine zR<|zA<|zN<|Qq<|Qn<|Qb<|Qb<|Qn ?_;refine Qn<|Qb<|Qb<|Qn<|Qb ?_;exact zp d U U (by rw [zds h1 p (q.trans (zbs z hr o))])
   have o:=o.trans f
   all_goals
    refine Qm<|Qg<|Qa<|Qh<|zB ?_;refine zM<|Qe ?_;exact zm (h:=⟨w.n-(j+1),kB,j+1,U,U,P,U,kB,Z3 hr Z o⟩)
  have V:w.n<=j:=kd K;rw [QZ a4 V] at Z;refine Qy<|Qf<|Qf<|Qj<|Qg<|Qa<|Qh<|zB ?_;refine zM<|Qe ?_;exact zm (h:=⟨n-(k+1),kB,k+1,_,U,U,O,U,kB,by rw [q,zc5 z Q Z,e1]⟩)
 have t:n<=k:=kd G;rw [zfX kB] at q;refine Qy<|Qf<|Qf<|Qj<|Qa<|zR<|zA<|zN ?_;refine Qq ?_;exact zp d U U (by rw [zu2 h1 p q])
def lcG:Nat->List Int->List Int->Int
 | _,[],ys=>2*(ys.length:Int)
 | _,x::xs,[]=>2*((x::xs).length:Int)
 | 0,_::_,_::_=>0
 | f+1,x::xs,y::ys=>KY (KY (zdB x y+lcG f xs ys) (2+lcG f xs (y::ys))) (2+lcG f (x::xs) ys)
theorem Kr:∀ (f:Nat) (a b:List Int),a.length+b.length<=f->lcG f a b=lcG (a.length+b.length) a b
 | _,[],b,_=>by simp [lcG]
 | _,x::a,[],_=>by simp [lcG]
 | 0,_::_,_::_,h=>by simp at h
 | f+1,x::a,y::b,h=>by
  simp only [jx] at h;have e:(x::a).length+(y::b).length=(a.length+b.length+1)+1:=(by simp only [jx];omega);rw [e];simp only [lcG];rw [Kr f a b kB,Kr f a (y::b) kM,Kr f (x::a) b kM];rw [Kr (a.length+b.length+1) a b kB,Kr (a.length+b.length+1) a (y::b) kM,Kr (a.length+b.length+1) (x::a) b kM]
theorem zcD (x y:Int):0<=zdB x y/\zdB x y<=3:=by unfold zdB;split<;>omega
theorem zpp {a b:Int}:KY a b<=a/\KY a b<=b/\(KY a b=a\/KY a b=b):=by unfold KY;split<;>omega
theorem zkx:∀ (f:Nat) (a b:List Int),0<=lcG f a b/\lcG f a b<=2*((a.length:Int)+b.length)
 | _,[],b=>by simp only [lcG,Ag];omega
 | _,x::a,[]=>by simp only [lcG,Ag];omega
 | 0,_::_,_::_=>by simp only [lcG];omega
 | f+1,x::a,y::b=>by
  have h1:=zkx f a b;have h2:=zkx f a (y::b);have h3:=zkx f (x::a) b;have d:=zcD x y;simp only [lcG];have m1:=@zpp (zdB x y+lcG f a b) (2+lcG f a (y::b));have m2:=@zpp (KY (zdB x y+lcG f a b) (2+lcG f a (y::b))) (2+lcG f (x::a) b);simp only [jx] at*;omega
def LC (a b:List Int)(i k:Nat):Int:=lcG ((a.drop i).length+(b.drop k).length) (a.drop i) (b.drop k)
variable{a b:List Int}{i k:Nat}
theorem zi6 (d:i<=a.length)(f:k<=b.length)(h:i=a.length\/k=b.length):LC a b i k=2*((a.length:Int)-i+b.length-k):=by
 unfold LC;rcases h with rfl | rfl
 ·rw [List.drop_length];simp only [lcG,Oy];omega
 ·rw [List.drop_length]
  cases h:a.drop i with
  | nil=>have:=jA List.length h;simp at this;simp only [lcG,Ag];omega
  | cons x g=>have:=jA List.length h;simp only [Oy] at this;simp only [lcG];omega
variable{x y:Int}
theorem zn9 (d:a[i]? =some x)(f:b[k]? =some y):LC a b i k=KY (KY (zdB x y+LC a b (i+1) (k+1)) (2+LC a b (i+1) k)) (2+LC a b i (k+1)):=by unfold LC;rw [ZA d,ZA f];have e:(x::a.drop (i+1)).length+(y::b.drop (k+1)).length=((a.drop (i+1)).length+(b.drop (k+1)).length+1)+1:=(by simp only [jx];omega);rw [e];simp only [lcG];rw [Kr (_+1) (a.drop (i+1)) (b.drop (k+1)) kB,Kr (_+1) (a.drop (i+1)) (y::b.drop (k+1)) kM,Kr (_+1) (x::a.drop (i+1)) (b.drop (k+1)) kM]
theorem zlo (a b:List Int)(i k:Nat):0<=LC a b i k/\LC a b i k<=2*((a.length:Int)+b.length):=by have h:=zkx ((a.drop i).length+(b.drop k).length) (a.drop i) (b.drop k);unfold LC;simp only [Oy] at*;omega
def X1 (a b:List Int)(i k:Nat)(v:Int):Prop:=v=LC a b i k
variable{v:Int}
theorem X1.inn (h:X1 a b i k v):0<=v/\v<=2*((a.length:Int)+b.length):=by unfold X1 at h;rw [h];exact zlo a b i k
theorem X1.fin (d:i<=a.length)(f:k<=b.length)(h:i=a.length\/k=b.length):X1 a b i k (2*((a.length:Int)-i+b.length-k)):=(zi6 d f h).symm
variable{B:Int}
theorem X1.step {A C:Int}(h:a[i]? =some x)(j:b[k]? =some y)(d:X1 a b (i+1) (k+1) A)(f:X1 a b (i+1) k B)(g:X1 a b i (k+1) C):X1 a b i k (KY (KY (zdB x y+A) (2+B)) (2+C)):=by unfold X1 at*;rw [zn9 h j,d,f,g]
def MOK (a b:List Int)(m:List ((Int×Int)×Int)):Prop:=∀ (i k:Nat) (v:Int),ZR m ((i:Int),(k:Int))=some v->X1 a b i k v
theorem MOK.nil :MOK a b []:=fun _ _ _ h=>by cases h
variable{m:List ((Int×Int)×Int)}
theorem MOK.set (h:MOK a b m)(g:X1 a b i k v):MOK a b (Vd m ((i:Int),(k:Int)) v):=fun d f j e=>by
 rw [Vv] at e;split at e
 ·rename_i h2;simp only [AO] at h2;obtain ⟨rfl,rfl⟩:i=d/\k=f:=kB;cases e;exact g
 ·exact h d f j e
structure LsE (I:Qu)(fid ba bb bk bs r:Nat)(av bv:Option Addr)(n c n2 c2:Nat)(xs ys:List Int):Prop where
 a:QO I [] ba 0 (.slice av n c)
 b:QO I [] bb 0 (.slice bv n2 c2)
 kn:QO I [] bk 0 (.map (some r))
 se:QO I [] bs 0 (.func (.func fid) #[] #[Zm ba,Zm bb,Zm bk,Zm bs])
 hA:Sl I 1 QF av n c xs
 hB:Sl I 1 QF bv n2 c2 ys
variable{ba bb bk bs r n2 c2:Nat}{bv:Option Addr}{xs ys:List Int}
theorem LsE.mono {g:Qu}{f:Nat}(h:LsE I f ba bb bk bs r av bv n c n2 c2 xs ys)(d:HLe I g):LsE g f ba bb bk bs r av bv n c n2 c2 xs ys:=
 ⟨h.a.mono d,h.b.mono d,h.kn.mono d,h.se.mono d,h.hA.mono d,h.hB.mono d⟩
def zfu:Int->Value:=Value.int .i64
def K6 (p:Int×Int):List Value:=[.int .i64 p.1,.int .i64 p.2]
theorem zjq (p:Int×Int):(K6 p).length=2:=rfl
theorem zc2 (xs:List (Int×Int)):YY (xs.flatMap K6)=true:=YM (fun _=>U) xs
def UT (a b:List Int)(i k:Nat):Bool:=decide (i<a.length)&&decide (k<b.length)&&(LC a b i k==zdB (a.getD i 0) (b.getD k 0)+LC a b (i+1) (k+1))
def zfB (a b:List Int)(i k:Nat):Bool:=decide (i<a.length)&&(LC a b i k==2+LC a b (i+1) k)
def paF (a b:List Int):Nat->Nat->Nat->List (Int×Int)
 | 0,_,_=>[]
 | f+1,i,k=>
  if (decide (i<a.length)||decide (k<b.length))=true then
   if UT a b i k=true then (((i+1:Nat):Int),((k+1:Nat):Int))::paF a b f (i+1) (k+1)
   else if zfB a b i k=true then (((i+1:Nat):Int),0)::paF a b f (i+1) k
   else (0,((k+1:Nat):Int))::paF a b f i (k+1)
  else []
def PaQ (a b:List Int)(d:List (Int×Int))(i k:Nat):Prop:=∃ f,a.length-i+(b.length-k)<=f/\paF a b (a.length+b.length) 0 0=d++paF a b f i k
theorem PaQ.start :PaQ a b [] 0 0:=⟨a.length+b.length,kB,U⟩
variable{d:List (Int×Int)}
theorem PaQ.fin (h:PaQ a b d i k)(g:a.length<=i)(j:b.length<=k):paF a b (a.length+b.length) 0 0=d:=by
 obtain ⟨f,_,e⟩:=h;rw [e]
 cases f with
 | zero=>simp [paF]
 | succ f=>unfold paF;rw [ja kK,jw]
theorem PaQ.fuel (h:PaQ a b d i k)(hg:i<a.length\/k<b.length):∃ f,a.length-i+(b.length-k)<=f+1/\paF a b (a.length+b.length) 0 0=d++paF a b (f+1) i k:=by
 obtain ⟨f,g,e⟩:=h
 cases f with
 | zero=>omega
 | succ f=>exact ⟨f,g,e⟩
theorem PaQ.both (h:PaQ a b d i k)(g:UT a b i k=true):PaQ a b (d++[(((i+1:Nat):Int),((k+1:Nat):Int))]) (i+1) (k+1):=by have h1:i<a.length/\k<b.length:=(by unfold UT at g;simp at g;omega);obtain ⟨f,j,e⟩:=h.fuel (.inl h1.1);refine ⟨f,kB,?_⟩;rw [e];show d++(if (decide (i<a.length)||decide (k<b.length))=true then _ else _)=_;rw [jb kK,jb g,js];rfl
theorem PaQ.one (h:PaQ a b d i k)(j:UT a b i k=false)(g:zfB a b i k=true):PaQ a b (d++[(((i+1:Nat):Int),0)]) (i+1) k:=by have h1:i<a.length:=(by unfold zfB at g;simp at g;omega);obtain ⟨f,l,e⟩:=h.fuel (.inl h1);refine ⟨f,kB,?_⟩;rw [e];show d++(if (decide (i<a.length)||decide (k<b.length))=true then _ else _)=_;rw [jb kK,ja (by rw [j];decide),jb g,js];rfl
theorem zg2 (j:i<=a.length)(g:k<=b.length)(hg:i<a.length\/k<b.length)(_q:UT a b i k=false)(f:zfB a b i k=false):k<b.length:=by
 by_cases h:k<b.length
 ·exact h
 ·have l:i<a.length:=kB;have o:=zi6 (a:=a) (b:=b) j g (.inr kB);have p:=zi6 (a:=a) (b:=b) (i:=i+1) kB g (.inr kB);unfold zfB at f;simp only [AJ,jR,OL] at f;rcases f with f | f
  ·omega
  ·omega
theorem PaQ.two (h:PaQ a b d i k)(hg:k<b.length)(g:UT a b i k=false)(j:zfB a b i k=false):PaQ a b (d++[(0,((k+1:Nat):Int))]) i (k+1):=by obtain ⟨f,l,e⟩:=h.fuel (.inr hg);refine ⟨f,kB,?_⟩;rw [e];show d++(if (decide (i<a.length)||decide (k<b.length))=true then _ else _)=_;rw [jb kK,ja (by rw [g];decide),ja (by rw [j];decide),js];rfl
def zpJ (a b:List Int):List (Int×Int):=paF a b (a.length+b.length) 0 0
def za0 (c:Int):Bool:=(Vb c != 0)&&(c != 8589934592)
def zba (a b:List Int):Int:=if a.length>64\/b.length>64 then 2 else if (a.any za0||b.any za0)=true then 410 else 0
theorem zq8 {m:Nat}(h:i<n\/k<m):(decide ((i:Int)<(n:Int))=true/\decide ((k:Int)<(m:Int))=true/\i<n/\k<m)\/(decide ((i:Int)<(n:Int))=true/\decide ((k:Int)<(m:Int))=false/\i<n/\m<=k)\/(decide ((i:Int)<(n:Int))=false/\decide ((k:Int)<(m:Int))=true/\n<=i/\k<m):=by
 by_cases h1:i<n
 ·by_cases h2:k<m
  ·exact .inl ⟨jN kB,jN kB,h1,h2⟩
  ·exact .inr (.inl ⟨jN kB,jX kB,h1,kB⟩)
 ·exact .inr (.inr ⟨jX kB,jN kB,kB,kB⟩)
variable{V:Int}{t:Bool}
theorem zj2 {A:Int}(j:a[i]? =some x)(l:b[k]? =some y)(g:X1 a b i k V)(f:X1 a b (i+1) (k+1) A)(h:(V==zdB x y+A)=t):UT a b i k=t:=by have h1:=(jc.1 j).1;have h2:=(jc.1 l).1;unfold X1 at g f;unfold UT;rw [QJ j,QJ l,<-g,<-f,h,jN h1,jN h2];rfl
theorem zjD (h:a.length<=i\/b.length<=k):UT a b i k=false:=by
 unfold UT;rcases h with h | h
 ·rw [jX (show ¬i<a.length by omega)];rfl
 ·rw [jX (show ¬k<b.length by omega),OP];rfl
theorem zeM (j:i<a.length)(g:X1 a b i k V)(f:X1 a b (i+1) k B)(h:(V==2+B)=t):zfB a b i k=t:=by unfold X1 at g f;unfold zfB;rw [<-g,<-f,h,jN j];rfl
theorem zzX (h:a.length<=i):zfB a b i k=false:=by unfold zfB;rw [jX (show ¬i<a.length by omega)];rfl
theorem zaH (h:a.length>64\/b.length>64):zba a b=2:=by unfold zba;rw [jb h]
theorem zam (h:¬(a.length>64\/b.length>64))(h2:(a.any za0||b.any za0)=true):zba a b=410:=by unfold zba;rw [ja h,jb h2]
theorem ziy (h:¬(a.length>64\/b.length>64))(h2:(a.any za0||b.any za0)=false):zba a b=0:=by unfold zba;rw [ja h,h2];rfl
def JS (a b:List Int):List (Int×Int):=if zba a b≠0 then [] else zpJ a b
def zC7 (a b:List Int):Value->Qu->Go.Kn.Loc->Prop:=fun v I' L=>L=[]/\∃ z av c,v= .tuple #[.int .i64 z,.slice av (JS a b).length c,.int .i64 (zba a b)]/\Sl I' 2 K6 av (JS a b).length c (JS a b)
theorem Kd (h:zba a b≠0):JS a b=[]:=by unfold JS;rw [jb h]
theorem zd3 (h:zba a b=0):JS a b=zpJ a b:=by unfold JS;rw [ja kB]
variable{q:Nat}
theorem znc (h:Sl I 1 QF av n c xs)(j:Sl I 1 QF bv n2 c2 ys)(l:q<2):∃ f g,([⟨av,n,c⟩,⟨bv,n2,c2⟩]:List Hd)[q]? =some f/\([xs,ys]:List (List Int))[q]? =some g/\Sl I 1 QF f.a f.n f.c g/\(f.n=n\/f.n=n2):=by
 rcases (show q=0\/q=1 by omega) with rfl | rfl
 ·exact ⟨_,xs,U,U,h,.inl U⟩
 ·exact ⟨_,ys,U,U,j,.inr U⟩
theorem Wj:ke 103:=.of Tryz.func103 kA kA
theorem zqG:ke 104:=.of Tryz.func104 kA kA
theorem zfN:Ke (α:=Int×Int) Tryz.prog 79 VE:=ztB zkK
theorem zl7:kr 182 79 3 (.int .i64 0):=⟨kA,.of kA⟩
theorem Wf:kl 177:=.of kA
theorem zor:kl 182:=.of kA
set_option maxHeartbeats 1600000 in
theorem zdD      (h:(LsE I 103 ba bb bk bs r av bv n c n2 c2 xs ys)) (hn:n<=100000) (a6:n2<=100000) (i k:Nat) (hi:i<=xs.length) (hk:k<=ys.length) (m1:List ((Int×Int)×Int)) (o:MOK xs ys m1) (Z:∀ (j:List ((Int×Int)×Int)),i<xs.length/\k<ys.length->MOK xs ys j->kg 103 ([.int .i64 ((i:Int)+1),.int .i64 ((k:Int)+1)]++[Zm ba,Zm bb,Zm bk,Zm bs]) I [(r,Yg VE zfu j)] (fun v s u=>∃ A,X1 xs ys (i+1) (k+1) A/\v= .int .i64 A/\s=I/\∃ j,MOK xs ys j/\u=[(r,Yg VE zfu j)])) (a0:∀ (j:List ((Int×Int)×Int)),i<xs.length/\k<ys.length->MOK xs ys j->kg 103 ([.int .i64 ((i:Int)+1),.int .i64 ((k:Int))]++[Zm ba,Zm bb,Zm bk,Zm bs]) I [(r,Yg VE zfu j)] (fun v s u=>∃ A,X1 xs ys (i+1) (k) A/\v= .int .i64 A/\s=I/\∃ j,MOK xs ys j/\u=[(r,Yg VE zfu j)])) (a1:∀ (j:List ((Int×Int)×Int)),i<xs.length/\k<ys.length->MOK xs ys j->kg 103 ([.int .i64 ((i:Int)),.int .i64 ((k:Int)+1)]++[Zm ba,Zm bb,Zm bk,Zm bs]) I [(r,Yg VE zfu j)] (fun v s u=>∃ A,X1 xs ys (i) (k+1) A/\v= .int .i64 A/\s=I/\∃ j,MOK xs ys j/\u=[(r,Yg VE zfu j)])):kg 103 [.int .i64 i,.int .i64 k,Zm ba,Zm bb,Zm bk,Zm bs] I [(r,Yg VE zfu m1)] (fun v s u=>∃ A,X1 xs ys (i) (k) A/\v= .int .i64 A/\s=I/\∃ j,MOK xs ys j/\u=[(r,Yg VE zfu j)]):=by
 intro g H w z;refine qe Tryz.func103 Tryz.ntmps103 z ?_;have O:=h.hA.len;subst O;have P:=h.hB.len;subst P;refine zR<|zA<|zN<|Qk<|zR ?_;refine zM ?_;refine zV (Qc U QA (fun hg=>by exact h.a.any)) ?_;refine zQ Qt ?_;refine zC ?_;refine zM ?_;refine QI 4 U U U ?_;refine zJ (Qd U) ?_;refine zJ (Qc U QA (fun hg=>by exact h.b.any)) ?_;refine zJ (Zs U Qt) ?_;refine zJ (Qx U U U) ?_;refine Q5 U U U U U ?_;refine zN ?_;refine zI ?_ ?_<;>intro p
 ·have M:i=xs.length\/k=ys.length:=kd p;refine zR ?_;refine zV (Qc U QA (fun hg=>by exact h.a.any)) ?_;refine zQ Qt ?_;refine zM ?_;refine zB ?_;refine zV (Qc U QA (fun hg=>by exact h.b.any)) ?_;refine zQ Qt ?_;refine zB ?_;refine zM ?_;refine zB ?_;refine zB ?_;refine zA<|zN<|Qq<|Qb ?_;exact Zc U U (fun w z=>⟨_,_,_,U,zJH _,z,_,X1.fin hi hk M,U,U,m1,o,U⟩)
 have l:i<xs.length/\k<ys.length:=kd p;obtain ⟨x,hx⟩:=h.hA.at l.1;obtain ⟨y,hy⟩:=h.hB.at l.2;have a5:=zcD x y;refine Qm<|Qa<|zR ?_;refine zV (Qc U zor (fun hg=>by exact h.kn.any)) ?_;refine zM ?_;refine zM ?_;refine zV (Zw (ps:=[(0,_),(1,_)]) [_,_] Yx K4 U U) ?_;refine zV (Wh (m:=m1) (ek:=VE) (a:=((i:Int),(k:Int))) zl7 zfN U U (fun _=>(by exact Mem.m0))) ?_;refine zM ?_;refine zE ?_;refine zE ?_;refine zA ?_;refine zA<|zN<|Qk<|zR ?_;refine zM ?_;refine zO<|zN ?_;refine zI ?_ ?_<;>intro K
 ·refine Qk ?_;have f:=zJH I;refine VR ?_;refine ZM I [] mixed ?_;refine zT 0 U (Qc U QA (fun hg=>by exact h.a.any)) f ?_;refine zT 1 U (Qd U) f ?_;refine zT 2 U (Qs U U Qt h.hA (fun hg=>kB)) f ?_;refine zT 3 U (Qc U Qr (fun hg=>by exact zJA h.hA hx U)) f ?_;refine zT 4 U (Qc U QA (fun hg=>by exact h.b.any)) f ?_;refine zT 5 U (Qd U) f ?_;refine zT 6 U (Qs U U Qt h.hB (fun hg=>kB)) f ?_;refine zT 7 U (Qc U Qr (fun hg=>by exact zJA h.hB hy U)) f ?_;refine zT 9 U (Qc U Wf (fun hg=>by exact h.se.any)) f ?_;refine zT 10 U (Qd U) f ?_;refine zT 11 U (Zf U U U (fun hg=>kB)) f ?_;refine zT 12 U (Qd U) f ?_;refine zT 13 U (Zf U U U (fun hg=>kB)) f ?_;refine zT 16 U (Qc U Wf (fun hg=>by exact h.se.any)) f ?_;refine zT 17 U (Qd U) f ?_;refine zT 18 U (Zf U U U (fun hg=>kB)) f ?_;refine zT 19 U (Qd U) f ?_;refine zT 22 U (Qc U Wf (fun hg=>by exact h.se.any)) f ?_;refine zT 23 U (Qd U) f ?_;refine zT 24 U (Qd U) f ?_;refine zT 25 U (Zf U U U (fun hg=>kB)) f ?_;refine qd 8 U ?_;refine qcV (vs:=[_,_]) U zqG (zkH I _ _) ?_;refine Qe ?_;refine zD f ?_;refine qd 14 U ?_;refine Yi (cap:=[Zm ba,Zm bb,Zm bk,Zm bs]) (vs:=[_,_]) U U Wj Zp (Z m1 l o) U U ?_;rintro a7 I1 L1 C ⟨VA,F,rfl,rfl,m2,Q,rfl⟩;have h:=h.mono C;have f:=f.trans C;have a2:=F.inn;refine Qe ?_;refine zD f ?_;refine zT 15 U (Zf U U U (fun hg=>kB)) f ?_;refine qd 20 U ?_;refine Yi (cap:=[Zm ba,Zm bb,Zm bk,Zm bs]) (vs:=[_,_]) U U Wj Zp (a0 m2 l Q) U U ?_;rintro a8 I2 L2 D ⟨VB,G,rfl,rfl,m3,T,rfl⟩;have h:=h.mono D;have f:=f.trans D;have a3:=G.inn;refine Qe ?_;refine zD f ?_;refine zT 21 U (Zf U U U (fun hg=>kB)) f ?_;refine qd 26 U ?_;refine Yi (cap:=[Zm ba,Zm bb,Zm bk,Zm bs]) (vs:=[_,_]) U U Wj Zp (a1 m3 l T) U U ?_;rintro a9 I3 L3 E ⟨VC,J,rfl,rfl,m4,W,rfl⟩;have h:=h.mono E;have f:=f.trans E;have a4:=J.inn;refine Qe ?_;refine zD f ?_;refine zT 27 U (Zf U U U (fun hg=>kB)) f ?_;refine zT 28 U (zix U U U) f ?_;refine zT 29 U (ZE U) f ?_;refine QH kA ?_;refine QP ?_;have N:=X1.step hx hy F G J;refine Qa<|Qh ?_;refine zV (Qc U zor (fun hg=>by exact h.kn.any)) ?_;refine zM ?_;refine zM ?_;refine zV (Zw (ps:=[(0,_),(1,_)]) [_,_] Yx K4 U U) ?_;refine zM ?_;refine Zd (m:=m4) (ev:=zfu) (ek:=VE) (a:=((i:Int),(k:Int))) (KY (KY (zdB x y+VA) (2+VB)) (2+VC)) zl7 zfN U U U U (by repeat (first | exact Upd.here | apply Upd.there | apply QN)) ?_;refine zN<|zR ?_;refine zM ?_;refine zA<|zN<|Qq ?_;exact Zc U U (fun w z=>⟨_,_,_,U,zJH _,z,_,N,U,U,_,W.set N,U⟩)
 obtain ⟨v,hv⟩:=OW.1 (by simpa using K);have Y:=o i k v hv;rw [hv];refine Qm<|Qa<|zR<|zM ?_;refine zA<|zN<|Qq ?_;exact Zc U U (fun w z=>⟨_,_,_,U,zJH _,z,_,Y,U,U,m1,o,U⟩)
theorem ziG {I:Qu}{ba bb bk bs r:Nat}{av bv:Option Addr}{n c n2 c2:Nat}{xs ys:List Int}(l:(LsE I 103 ba bb bk bs r av bv n c n2 c2 xs ys))(o:n<=100000)(g:n2<=100000):∀ (q i k:Nat) (m1:List ((Int×Int)×Int)),xs.length+ys.length<=q+(i+k)->i<=xs.length->k<=ys.length->MOK xs ys m1->kg 103 ([.int .i64 i,.int .i64 k]++[Zm ba,Zm bb,Zm bk,Zm bs]) I [(r,Yg VE zfu m1)] (fun v p s=>∃ A,X1 xs ys (i) (k) A/\v= .int .i64 A/\p=I/\∃ j,MOK xs ys j/\s=[(r,Yg VE zfu j)])
 | 0,i,k,m1,hq,hi,hk,hm=>zdD l o g i k hi hk m1 hm (fun j h=>kB) (fun j h=>kB) (fun j h=>kB)
 | q+1,i,k,m1,hq,hi,hk,hm=>zdD l o g i k hi hk m1 hm (fun j h f=>ziG l o g q (i+1) (k+1) j kB kB kB f) (fun j h f=>ziG l o g q (i+1) k j kB kB kB f) (fun j h f=>ziG l o g q i (k+1) j kB kB kB f)
theorem VL:kp 41 79 2 16:=.of kA
theorem znq:ke 23:=.of Tryz.func23 kA kA
theorem zBA:ki 177 1:=.of kA
theorem zzq:ki 182 1:=.of kA
theorem zET:kj 177 .nilFunc:=.of kA
theorem zCP:kj 182 (.map none):=.of kA
theorem zFl (o:(LsE I 103 ba bb bk bs r av bv n c n2 c2 xs ys))(s:n<=100000)(f:n2<=100000)(i k:Nat)(m1:List ((Int×Int)×Int))(h:i<xs.length/\k<ys.length)(p:MOK xs ys m1):kg 103 ([.int .i64 ((i:Int)+1),.int .i64 ((k:Int)+1)]++[Zm ba,Zm bb,Zm bk,Zm bs]) I [(r,Yg VE zfu m1)] (fun v j l=>∃ A,X1 xs ys (i+1) (k+1) A/\v= .int .i64 A/\j=I/\∃ g,MOK xs ys g/\l=[(r,Yg VE zfu g)]):=ziG o s f (xs.length+ys.length) (i+1) (k+1) m1 kB kB kB p
theorem zuI (o:(LsE I 103 ba bb bk bs r av bv n c n2 c2 xs ys))(s:n<=100000)(f:n2<=100000)(i k:Nat)(m1:List ((Int×Int)×Int))(h:i<xs.length/\k<=ys.length)(p:MOK xs ys m1):kg 103 ([.int .i64 ((i:Int)+1),.int .i64 ((k:Int))]++[Zm ba,Zm bb,Zm bk,Zm bs]) I [(r,Yg VE zfu m1)] (fun v j l=>∃ A,X1 xs ys (i+1) (k) A/\v= .int .i64 A/\j=I/\∃ g,MOK xs ys g/\l=[(r,Yg VE zfu g)]):=ziG o s f (xs.length+ys.length) (i+1) (k) m1 kB kB kB p
theorem zFj (o:(LsE I 103 ba bb bk bs r av bv n c n2 c2 xs ys))(s:n<=100000)(f:n2<=100000)(_i _k:Nat)(m1:List ((Int×Int)×Int))(_h:True)(p:MOK xs ys m1):kg 103 ([.int .i64 (0),.int .i64 (0)]++[Zm ba,Zm bb,Zm bk,Zm bs]) I [(r,Yg VE zfu m1)] (fun v j l=>∃ A,X1 xs ys (0) (0) A/\v= .int .i64 A/\j=I/\∃ g,MOK xs ys g/\l=[(r,Yg VE zfu g)]):=ziG o s f (xs.length+ys.length) (0) (0) m1 kB kB kB p
set_option maxHeartbeats 1600000 in
theorem zDu     (hA:Sl I 1 QF av n c xs)    (hB:Sl I 1 QF bv n2 c2 ys) (j5:n<=1000000) (i0:n2<=1000000):kg 60 [.slice av n c,.slice bv n2 c2] I [] (zC7 xs ys):=by
 intro g H w hw;refine qe Tryz.func60 Tryz.ntmps60 hw ?_;have C:=zJH I;have f5:=hA.len;subst f5;have f6:=hB.len;subst f6;refine zR ?_;refine QU U U U (fun Q=>?_);refine QU U U U (fun W=>?_);refine zA ?_;refine zA ?_;refine zA<|zN<|Qk<|Qk ?_;refine Vz (fun I1 c0 a1=>?_);have hA:=hA.mono c0;have hB:=hB.mono c0;have C:=C.trans c0;have s:QO I1 [] Q 0 (.slice av xs.length c):=.imm (a1 _ _ kD) U;have u:QO I1 [] W 0 (.slice bv ys.length c2):=.imm (a1 _ _ kD) U;refine Qh ?_;refine zV (Qc U QA (fun hg=>by exact s.any)) ?_;refine zQ Qt ?_;refine zC ?_;refine zM ?_;refine QI 3 U U U ?_;refine zJ (Qc U QA (fun hg=>by exact u.any)) ?_;refine zJ (Zs U Qt) ?_;refine zJ (Qx U U U) ?_;refine Q5 U U U U U ?_;refine zN ?_;refine zI ?_ ?_<;>intro b3
 ·have A:xs.length>64\/ys.length>64:=kd b3;refine zR<|zA ?_;refine zA ?_;refine zA<|zN<|Qq<|Qb ?_
  first
  | exact Jo U U U U (fun w hw=>⟨_,_,[],U,C,hw.drop,U,_,none,0,by rw [zaH A,Kd (by rw [zaH A];decide)];rfl,by rw [Kd (by rw [zaH A];decide)];exact .nil⟩)
 have A:¬(xs.length>64\/ys.length>64):=kd b3;refine Qm<|Qa<|Qk<|zR ?_;refine zV (Qc U QA (fun hg=>by exact s.any)) ?_;refine zV (Qc U QA (fun hg=>by exact u.any)) ?_;refine zpb [(0,_),(1,_)] [Kv ⟨av,xs.length,c⟩,Kv ⟨bv,ys.length,c2⟩] UK (fun d2=>?_);refine zQ QM ?_;refine zM<|Qe ?_;refine Vz (fun I2 a5 a1=>?_);have hA:=hA.mono a5;have hB:=hB.mono a5;have s:=s.mono a5;have u:=u.mono a5;have C:=C.trans a5;have d5:Sl I2 1 Kv (some ⟨d2,0,none⟩) 2 2 ([⟨av,xs.length,c⟩,⟨bv,ys.length,c2⟩]:List Hd):=Sl.lit _ U VH (show _=some (Obj.cells (([⟨av,xs.length,c⟩,⟨bv,ys.length,c2⟩]:List Hd).flatMap Kv).toArray 23 (0,0)) from (a1 _ _ kD));refine Qa<|Ql ?_;refine zU [(2,_),(3,_),(28,_),(29,_)] (fun T L0 mz E I' M=>∃ (z:Nat),mz=2-z/\E=(5,.slice none 0 0)::(30,.int .i64 z)::T/\I2=I'/\[]=M/\z<=2/\([xs,ys].take z).any (fun l=>l.any za0)=false) ?_ (h:=⟨0,U,U,U,U,jd _,U⟩);rintro mz E I' M ⟨z,rfl,rfl,rfl,rfl,hz,d0⟩;refine zR<|zC<|zN<|Qk ?_;refine zI ?_ ?_<;>intro b4
 ·have c7:z<2:=kd b4;obtain ⟨hd,zs,f4,e5,hZ,j6⟩:=znc hA hB c7;refine Qm<|Qa<|Qk<|Ql<|zR ?_;refine zV (zX QM d5) ?_;refine zV (Qc U QA (fun hg=>by exact zJA d5 f4 U)) ?_;refine zA ?_;refine zN<|zR ?_;refine zM ?_;refine zQ Qt ?_;refine zM<|zN<|Ql ?_;refine zU [(2,_),(3,_),(28,_),(29,_),(30,_),(34,_),(35,_)] (fun T L0 mz E I' M=>∃ (j:Nat),mz=hd.n-j/\E=(5,.slice none 0 0)::(36,.int .i64 j)::T/\I2=I'/\[]=M/\j<=hd.n/\(zs.take j).any za0=false) ?_ (h:=⟨0,U,U,U,U,jd _,U⟩);rintro mz E I' M ⟨j,rfl,rfl,rfl,rfl,hj,d1⟩;refine zR<|zC<|zN<|Qk ?_;refine zI ?_ ?_<;>intro b5
  ·have c6:j<hd.n:=kd b5;obtain ⟨cc,hz⟩:=hZ.at c6;refine Qm<|Qa<|Qk<|Ql<|zR ?_;refine zV (zX Qt hZ) ?_;refine zV (Qc U Qr (fun hg=>by exact zJA hZ hz U)) ?_;refine zA ?_;refine zN<|zR ?_;refine zM ?_;refine qcV (vs:=[_]) U znq (zo9 _ _) ?_;refine zM ?_;refine zE ?_;refine zE ?_;refine Qv Kc U U (fun f9=>?_);refine zh Zy ?_;refine zA ?_;refine zN<|zR ?_;refine zM ?_;refine zC ?_;refine zM ?_;refine Qw 2 U U U ?_;refine zK (Qd U) ?_;refine zK (Qx U U U) ?_;refine QC U U U U U ?_;refine zN ?_;refine zI ?_ ?_<;>intro b6
   ·have c3:za0 cc=true:=b6;have a9:(xs.any za0||ys.any za0)=true:=(by have h:=YN (p:=fun l:List Int=>l.any za0) e5 (YN hz c3);simpa using h);refine zR<|zA ?_;refine zA ?_;refine zA<|zN<|Qq<|Qn<|Qb<|Qb<|Qn<|Qn ?_;refine Qb<|Qb<|Qn<|Qb ?_
    first
    | exact Jo U U U U (fun w hw=>⟨_,_,[],U,C,hw.drop,U,_,none,0,by rw [zam A a9,Kd (by rw [zam A a9];decide)];rfl,by rw [Kd (by rw [zam A a9];decide)];exact .nil⟩)
   have c3:za0 cc=false:=b6;refine Qm<|Qg<|Qa<|Qh<|zB ?_;refine zM<|Qe ?_;exact zm (h:=⟨hd.n-(j+1),kB,j+1,U,U,U,U,kB,Z3 hz d1 c3⟩)
  have c4:hd.n<=j:=kd b5;rw [QZ hZ.len c4] at d1;refine Qy<|Qf<|Qf<|Qj<|Qg<|Qa<|Qh<|zB ?_;refine zM<|Qe ?_;exact zm (h:=⟨2-(z+1),kB,z+1,U,U,U,U,kB,Z3 e5 d0 d1⟩)
 have c5:2<=z:=kd b4;rw [jr (by simpa using c5)] at d0;have e4:(xs.any za0||ys.any za0)=false:=(by simpa using d0);refine Qy<|Qf<|Qf<|Qj<|Qa<|zR ?_;refine Yb U U (fun b0=>?_);refine Qv zCP U U (fun F=>?_);refine zS zzq ?_;refine zN<|zR ?_;refine Qv zET U U (fun G=>?_);refine zN<|zR ?_;refine zV (Zn (us:=[]) (vs:=[_,_,_,_]) U U) ?_;refine zS zBA ?_;refine zN<|Qk<|Qk ?_;refine Zk (b:=G) (by repeat (first | exact Zb.here | apply Zb.there)) (fun I5 a6 f1=>?_);have hA:=hA.mono a6;have hB:=hB.mono a6;have s:=s.mono a6;have u:=u.mono a6;have C:=C.trans a6;have a4:QO I5 [] G 0 (.func (.func 103) #[] #[Zm Q,Zm W,Zm F,Zm G]):=.imm f1 U;refine Zk (b:=F) (by repeat (first | exact Zb.here | apply Zb.there)) (fun I6 a2 f2=>?_);have hA:=hA.mono a2;have hB:=hB.mono a2;have s:=s.mono a2;have u:=u.mono a2;have a4:=a4.mono a2;have C:=C.trans a2;have d6:QO I6 [] F 0 (.map (some b0)):=.imm f2 U;have o:LsE I6 103 Q W F G b0 av bv xs.length c ys.length c2 xs ys:=⟨s,u,d6,a4,hA,hB⟩;refine Qh<|zA ?_;refine zA<|zN<|Ql ?_;refine zU [(2,_),(3,_),(14,_)] (fun T L0 mz E I' M=>∃ (i k:Nat) (m:List ((Int×Int)×Int)) (d:List (Int×Int)) (v5:Value) (q:Nat) (L:Go.Kn.Loc),mz=xs.length-i+(ys.length-k)/\E=(5,v5)::(15,.int .i64 i)::(16,.int .i64 k)::T/\HLe I6 I'/\L++[(b0,Yg VE zfu m)]=M/\i<=xs.length/\k<=ys.length/\MOK xs ys m/\PaQ xs ys d i k/\OwnS 79 2 v5 q (d.flatMap K6) L/\q<=i+k) ?_ (h:=⟨0,0,[],[],_,0,[],U,U,zJH _,U,jd _,jd _,.nil,.start,OwnS.nil,jn _⟩);rintro mz E J7 M ⟨i,k,m,d,v5,q,L,rfl,rfl,hJ,rfl,hi,hk,hm,a3,hO,hq⟩;have s:=s.mono hJ;have u:=u.mono hJ;have o:=o.mono hJ;have C:=C.trans hJ;have K:=hJ;refine Qk<|zR<|zM ?_;refine zV (Qc U QA (fun hg=>by exact s.any)) ?_;refine zQ Qt ?_;refine zC ?_;refine zM ?_;refine QI 4 U U U ?_;refine zJ (Qd U) ?_;refine zJ (Qc U QA (fun hg=>by exact u.any)) ?_;refine zJ (Zs U Qt) ?_;refine zJ (Qx U U U) ?_;refine Q5 U U U U U ?_;refine zN ?_;refine zI ?_ ?_<;>intro b7
 ·have f7:i<xs.length\/k<ys.length:=kd b7;refine Qm<|Qa<|Ql<|zR ?_;refine zV (Qc U Wf (fun hg=>by exact o.se.any)) ?_;refine zM ?_;refine zM ?_;refine Yi (cap:=[Zm Q,Zm W,Zm F,Zm G]) (vs:=[_,_]) U U Wj (by repeat (first | exact .cons .here .nil | exact Zp | exact Q6 | apply ZC | apply Zz)) (ziG o kB kB (xs.length+ys.length) i k m kB hi hk hm) U U ?_;rintro j7 I8 L8 a7 ⟨VV,a0,rfl,rfl,m1,c8,rfl⟩;have s:=s.mono a7;have u:=u.mono a7;have o:=o.mono a7;have o:=o.mono a7;have K:=K.trans a7;have j2:=a0.inn;refine zA<|zN<|Ql<|Qk ?_;obtain ⟨Y,b1,h5,h6⟩ | ⟨Y,b1,h5,h6⟩ | ⟨Y,b1,h5,h6⟩:=zq8 f7
  ·obtain ⟨x,hx⟩:=o.hA.at h5;obtain ⟨y,hy⟩:=o.hB.at h6;have j3:=zcD x y;have f:=zJH I8;refine VR ?_;refine ZM I8 [] mixed ?_;refine zT 0 U (Qd U) f ?_;refine zT 1 U (Qc U QA (fun hg=>by exact s.any)) f ?_;refine zT 2 U (Zs U Qt) f ?_;refine zT 3 U (Qx U U U) f ?_;rw [Y];refine zT 4 U (Qd U) f ?_;refine zw 5 81 U (Qd U) f ?_;refine zw 6 81 U (Qc U QA (fun hg=>by exact u.any)) f ?_;refine zw 7 81 U (Zs U Qt) f ?_;refine zw 8 81 U (Qx U U U) f ?_;rw [b1];refine zT 9 U (Z2 U U U) f ?_;refine zT 10 U (Qd U) f ?_;refine zw 11 87 U (Qd U) f ?_;refine zw 12 87 U (Qc U QA (fun hg=>by exact s.any)) f ?_;refine zw 13 87 U (Qd U) f ?_;refine zw 14 87 U (Qs U U Qt o.hA (fun hg=>kB)) f ?_;refine zw 15 87 U (Qc U Qr (fun hg=>by exact zJA o.hA hx U)) f ?_;refine zw 16 87 U (Qc U QA (fun hg=>by exact u.any)) f ?_;refine zw 17 87 U (Qd U) f ?_;refine zw 18 87 U (Qs U U Qt o.hB (fun hg=>kB)) f ?_;refine zw 19 87 U (Qc U Qr (fun hg=>by exact zJA o.hB hy U)) f ?_;refine zw 21 87 U (Qc U Wf (fun hg=>by exact o.se.any)) f ?_;refine zw 22 87 U (Qd U) f ?_;refine zw 23 87 U (Zf U U U (fun hg=>kB)) f ?_;refine zw 24 87 U (Qd U) f ?_;refine zw 25 87 U (Zf U U U (fun hg=>kB)) f ?_;refine qd 20 U ?_;refine QR (dj:=87) U U U ?_;refine qcV (vs:=[_,_]) U zqG (zkH _ _ _) ?_;refine Qe ?_;refine zD f ?_;refine qd 26 U ?_;refine QR (dj:=87) U U U ?_;refine Yi (cap:=[Zm Q,Zm W,Zm F,Zm G]) (vs:=[_,_]) U U Wj (by repeat (first | exact .cons .here .nil | exact Zp | exact Q6 | apply ZC | apply Zz)) (zFl o kB kB i k m1 kB c8) U U ?_;rintro j8 I9 L9 a8 ⟨VA,c1,rfl,rfl,m2,e3,rfl⟩;have s:=s.mono a8;have o:=o.mono a8;have o:=o.mono a8;have K:=K.trans a8;have f:=f.trans a8;have j1:=c1.inn;refine Qe ?_;refine zD f ?_;refine zw 27 87 U (Zf U U U (fun hg=>kB)) f ?_;refine zw 28 87 U (Qx U U U) f ?_;refine zT 29 U (Z2 U U U) f ?_;refine zT 30 U (ZE U) f ?_;refine QH kA ?_;refine QP ?_;refine Qa ?_;refine zI ?_ ?_<;>intro N
   ·have O:=zj2 (t:=true) hx hy a0 c1 (by simpa using N);refine zR<|zM ?_;refine zB ?_;refine zM ?_;refine zB ?_;refine zA ?_;refine zA<|zN<|Qh ?_;refine zM ?_;refine zM ?_;refine zM ?_;refine zV (Zw (ps:=[(0,_),(1,_)]) [_,_] Yx K4 U U) ?_;refine zpb [(0,_)] [K6 ((i:Int)+1,(k:Int)+1)] VL (fun e7=>?_);refine zpa (_) ([((i:Int)+1,(k:Int)+1)].flatMap K6) (L) U U VL hO ⟨U,fun _=>U,by repeat (first | exact zJF | apply zJE | apply zJG)⟩ (zc2 [((i:Int)+1,(k:Int)+1)]) ?_;intro v9 L9 J _;rw [<-jh] at J;refine zA<|Qe<|Qg<|Qg ?_;exact zm (h:=⟨xs.length-(i+1)+(ys.length-(k+1)),kB,i+1,k+1,_,_,_,_,_,U,U,K,U,kB,kB,e3,a3.both O,J,kB⟩)
   have O:=zj2 (t:=false) hx hy a0 c1 (by simpa using N);refine zR<|zM ?_;refine zV (Qc U QA (fun hg=>by exact s.any)) ?_;refine zQ Qt ?_;refine zC ?_;rw [Y];refine zM ?_;refine QR (dj:=122) U U U ?_;refine zM ?_;refine QR (dj:=122) U U U ?_;refine zV (Qc U Wf (fun hg=>by exact o.se.any)) ?_;refine QR (dj:=122) U U U ?_;refine zM ?_;refine QR (dj:=122) U U U ?_;refine zB ?_;refine QR (dj:=122) U U U ?_;refine zM ?_;refine QR (dj:=122) U U U ?_;refine Yi (cap:=[Zm Q,Zm W,Zm F,Zm G]) (vs:=[_,_]) U U Wj (by repeat (first | exact .cons .here .nil | exact Zp | exact Q6 | apply ZC | apply Zz)) (zuI o kB kB i k m2 kB e3) U U ?_;rintro i1 i4 i7 d8 ⟨VB,Z,rfl,rfl,m3,b2,rfl⟩;have K:=K.trans d8;have f3:=Z.inn;refine QR (dj:=122) U U U ?_;refine zB ?_;refine QR (dj:=122) U U U ?_;refine zC ?_;refine zV (Z2 U U U) ?_;refine zA<|zN ?_;refine zI ?_ ?_<;>intro D
   ·have P:=zeM (t:=true) h5 a0 Z (by simpa using D);refine zR<|zM ?_;refine zB ?_;refine zA<|zN<|Qh ?_;refine zM ?_;refine zM ?_;refine zV (Zw (ps:=[(0,_),(1,_)]) [_,_] Yx K4 U U) ?_;refine zpb [(0,_)] [K6 ((i:Int)+1,(0:Int))] VL (fun b9=>?_);refine zpa (_) ([((i:Int)+1,(0:Int))].flatMap K6) (L) U U VL hO ⟨U,fun _=>U,by repeat (first | exact zJF | apply zJE | apply zJG)⟩ (zc2 [((i:Int)+1,(0:Int))]) ?_;intro v9 L9 J _;rw [<-jh] at J;refine zA<|Qe<|Qg<|Qg ?_;exact zm (h:=⟨xs.length-(i+1)+(ys.length-(k)),kB,i+1,k,_,_,_,_,_,U,U,K,U,kB,kB,b2,a3.one O P,J,kB⟩)
   have P:=zeM (t:=false) h5 a0 Z (by simpa using D);refine zR<|zM ?_;refine zB ?_;refine zA<|zN<|Qh ?_;refine zM ?_;refine zM ?_;refine zV (Zw (ps:=[(0,_),(1,_)]) [_,_] Yx K4 U U) ?_;refine zpb [(0,_)] [K6 ((0:Int),(k:Int)+1)] VL (fun d3=>?_);refine zpa (_) ([((0:Int),(k:Int)+1)].flatMap K6) (L) U U VL hO ⟨U,fun _=>U,by repeat (first | exact zJF | apply zJE | apply zJG)⟩ (zc2 [((0:Int),(k:Int)+1)]) ?_;intro v9 L9 J _;rw [<-jh] at J;refine zA<|Qe<|Qg<|Qg ?_;exact zm (h:=⟨xs.length-(i)+(ys.length-(k+1)),kB,i,k+1,_,_,_,_,_,U,U,K,U,kB,kB,b2,a3.two h6 O P,J,kB⟩)
  ·have f:=zJH I8;refine VR ?_;refine ZM I8 [] mixed ?_;refine zT 0 U (Qd U) f ?_;refine zT 1 U (Qc U QA (fun hg=>by exact s.any)) f ?_;refine zT 2 U (Zs U Qt) f ?_;refine zT 3 U (Qx U U U) f ?_;rw [Y];refine zT 4 U (Qd U) f ?_;refine zw 5 81 U (Qd U) f ?_;refine zw 6 81 U (Qc U QA (fun hg=>by exact u.any)) f ?_;refine zw 7 81 U (Zs U Qt) f ?_;refine zw 8 81 U (Qx U U U) f ?_;rw [b1];refine zT 9 U (Z2 U U U) f ?_;refine zT 10 U (Qd U) f ?_;refine zW 11 87 f ?_;refine zW 12 87 f ?_;refine zW 13 87 f ?_;refine zW 14 87 f ?_;refine zW 15 87 f ?_;refine zW 16 87 f ?_;refine zW 17 87 f ?_;refine zW 18 87 f ?_;refine zW 19 87 f ?_;refine zW 20 87 f ?_;refine zW 21 87 f ?_;refine zW 22 87 f ?_;refine zW 23 87 f ?_;refine zW 24 87 f ?_;refine zW 25 87 f ?_;refine zW 26 87 f ?_;refine zW 27 87 f ?_;refine zW 28 87 f ?_;refine zT 29 U (V6 U U U) f ?_;refine zT 30 U (ZE U) f ?_;refine QH kA ?_;refine QP ?_;refine Qa ?_;refine zI ?_ ?_<;>intro N
   ·cases N
   have O:=zjD (a:=xs) (b:=ys) (i:=i) (k:=k) (.inr h6);refine zR<|zM ?_;refine zV (Qc U QA (fun hg=>by exact s.any)) ?_;refine zQ Qt ?_;refine zC ?_;rw [Y];refine zM ?_;refine QR (dj:=122) U U U ?_;refine zM ?_;refine QR (dj:=122) U U U ?_;refine zV (Qc U Wf (fun hg=>by exact o.se.any)) ?_;refine QR (dj:=122) U U U ?_;refine zM ?_;refine QR (dj:=122) U U U ?_;refine zB ?_;refine QR (dj:=122) U U U ?_;refine zM ?_;refine QR (dj:=122) U U U ?_;refine Yi (cap:=[Zm Q,Zm W,Zm F,Zm G]) (vs:=[_,_]) U U Wj (by repeat (first | exact .cons .here .nil | exact Zp | exact Q6 | apply ZC | apply Zz)) (zuI o kB kB i k m1 kB c8) U U ?_;rintro i2 i5 i8 d9 ⟨VB,Z,rfl,rfl,m3,b2,rfl⟩;have K:=K.trans d9;have f3:=Z.inn;refine QR (dj:=122) U U U ?_;refine zB ?_;refine QR (dj:=122) U U U ?_;refine zC ?_;refine zV (Z2 U U U) ?_;refine zA<|zN ?_;refine zI ?_ ?_<;>intro D
   ·have P:=zeM (t:=true) h5 a0 Z (by simpa using D);refine zR<|zM ?_;refine zB ?_;refine zA<|zN<|Qh ?_;refine zM ?_;refine zM ?_;refine zV (Zw (ps:=[(0,_),(1,_)]) [_,_] Yx K4 U U) ?_;refine zpb [(0,_)] [K6 ((i:Int)+1,(0:Int))] VL (fun b9=>?_);refine zpa (_) ([((i:Int)+1,(0:Int))].flatMap K6) (L) U U VL hO ⟨U,fun _=>U,by repeat (first | exact zJF | apply zJE | apply zJG)⟩ (zc2 [((i:Int)+1,(0:Int))]) ?_;intro v9 L9 J _;rw [<-jh] at J;refine zA<|Qe<|Qg<|Qg ?_;exact zm (h:=⟨xs.length-(i+1)+(ys.length-(k)),kB,i+1,k,_,_,_,_,_,U,U,K,U,kB,kB,b2,a3.one O P,J,kB⟩)
   have P:=zeM (t:=false) h5 a0 Z (by simpa using D);exact absurd (zg2 hi hk (.inl h5) O P) kB
  have f:=zJH I8;refine VR ?_;refine ZM I8 [] mixed ?_;refine zT 0 U (Qd U) f ?_;refine zT 1 U (Qc U QA (fun hg=>by exact s.any)) f ?_;refine zT 2 U (Zs U Qt) f ?_;refine zT 3 U (Qx U U U) f ?_;rw [Y];refine zT 4 U (Qd U) f ?_;refine zW 5 81 f ?_;refine zW 6 81 f ?_;refine zW 7 81 f ?_;refine zW 8 81 f ?_;refine zT 9 U (V6 U U U) f ?_;refine zT 10 U (Qd U) f ?_;refine zW 11 87 f ?_;refine zW 12 87 f ?_;refine zW 13 87 f ?_;refine zW 14 87 f ?_;refine zW 15 87 f ?_;refine zW 16 87 f ?_;refine zW 17 87 f ?_;refine zW 18 87 f ?_;refine zW 19 87 f ?_;refine zW 20 87 f ?_;refine zW 21 87 f ?_;refine zW 22 87 f ?_;refine zW 23 87 f ?_;refine zW 24 87 f ?_;refine zW 25 87 f ?_;refine zW 26 87 f ?_;refine zW 27 87 f ?_;refine zW 28 87 f ?_;refine zT 29 U (V6 U U U) f ?_;refine zT 30 U (ZE U) f ?_;refine QH kA ?_;refine QP ?_;refine Qa ?_;refine zI ?_ ?_<;>intro N
  ·cases N
  have O:=zjD (a:=xs) (b:=ys) (i:=i) (k:=k) (.inl h5);refine zR<|zM ?_;refine zV (Qc U QA (fun hg=>by exact s.any)) ?_;refine zQ Qt ?_;refine zC ?_;rw [Y];refine zM ?_;refine Q7 (dj:=122) U U U U U ?_;refine Q7 (dj:=122) U U U U U ?_;refine Q7 (dj:=122) U U U U U ?_;refine Q7 (dj:=122) U U U U U ?_;refine Q7 (dj:=122) U U U U U ?_;refine Q7 (dj:=122) U U U U U ?_;refine Q7 (dj:=122) U U U U U ?_;refine Q7 (dj:=122) U U U U U ?_;refine zV (V6 U U U) ?_;refine zA<|zN ?_;refine zI ?_ ?_<;>intro D
  ·cases D
  have P:=zzX (a:=xs) (b:=ys) (i:=i) (k:=k) h5;refine zR<|zM ?_;refine zB ?_;refine zA<|zN<|Qh ?_;refine zM ?_;refine zM ?_;refine zV (Zw (ps:=[(0,_),(1,_)]) [_,_] Yx K4 U U) ?_;refine zpb [(0,_)] [K6 ((0:Int),(k:Int)+1)] VL (fun d3=>?_);refine zpa (_) ([((0:Int),(k:Int)+1)].flatMap K6) (L) U U VL hO ⟨U,fun _=>U,by repeat (first | exact zJF | apply zJE | apply zJG)⟩ (zc2 [((0:Int),(k:Int)+1)]) ?_;intro v9 L9 J _;rw [<-jh] at J;refine zA<|Qe<|Qg<|Qg ?_;exact zm (h:=⟨xs.length-(i)+(ys.length-(k+1)),kB,i,k+1,_,_,_,_,_,U,U,K,U,kB,kB,c8,a3.two h6 O P,J,kB⟩)
 have b8:xs.length<=i/\ys.length<=k:=kd b7;have e2:zpJ xs ys=d:=a3.fin b8.1 b8.2;have d7:=ziy A e4;have e1:=(zd3 d7).trans e2;refine Qy<|Qf<|Qf<|Qj<|Qa<|zR ?_;refine zV (Qc U Wf (fun hg=>by exact o.se.any)) ?_;refine Yi (cap:=[Zm Q,Zm W,Zm F,Zm G]) (vs:=[_,_]) U U Wj (by repeat (first | exact .cons .here .nil | exact Zp | exact Q6 | apply ZC | apply Zz)) (zFj o kB kB i k m trivial hm) U U ?_;rintro i3 i6 i9 e0 ⟨VZ,j0,rfl,rfl,m5,j4,rfl⟩;have C:=C.trans e0;refine zM ?_;refine zA ?_;refine zA ?_;refine zA<|zN<|Qq ?_
 first
 | exact Jo U U U U (fun w hw=>by obtain ⟨I9,e6,c9,e8,f0,e9,d4⟩:=OwnS.freeze (R:=[]) hO zjq kC (by rw [jw];exact hw.subL (by repeat (first | exact .refl | exact Q3 | exact Q3 (L:=L) (R:=[]) | refine .drop ?_)));have f8:=d4.len;subst f8;exact ⟨_,I9,[],U,C.trans e8,f0,U,_,e6,c9,by rw [d7,e1,e9],by rw [e1];exact d4⟩)
def KN (a:Int):List (Int×Int)->List (Int×Int)
 | []=>[]
 | p::o=>if p.1>0 then KN p.1 o else (a,p.2-1)::KN a o
def zjr (o:List (Int×Int)):List (Int×Int):=KN 0 o
variable{o:List (Int×Int)}{p:Int×Int}
theorem zyC {a:Int}(f:o[k]? =some p)(h:decide (p.1>0)=true):KN a (o.drop k)=KN p.1 (o.drop (k+1)):=by rw [ZA f];show (if p.1>0 then KN p.1 (o.drop (k+1)) else (a,p.2-1)::KN a (o.drop (k+1)))=_;rw [jb (by simpa using h)]
theorem zwj {a:Int}(f:o[k]? =some p)(h:decide (p.1>0)=false):KN a (o.drop k)=(a,p.2-1)::KN a (o.drop (k+1)):=by rw [ZA f];show (if p.1>0 then KN p.1 (o.drop (k+1)) else (a,p.2-1)::KN a (o.drop (k+1)))=_;rw [ja (by simpa using h)]
theorem zAu {a:Int}(h:zjr o=d++KN a (o.drop k))(f:o.length<=k):zjr o=d:=by rw [h,Or f];simp [KN]
theorem zxg {a:Int}(h:zjr o=d++KN a (o.drop k))(g:o[k]? =some p)(f:decide (p.1>0)=false):d++[(a,p.2-1)]<+:zjr o:=by rw [h,zwj g f];exact ⟨KN a (o.drop (k+1)),by simp⟩
def zHf (q:Int×Int):Value:=.int .i64 q.1
def zIv (q:Int×Int):Value:=.int .i64 q.2
end
end Go.Proofs.YtodakphagkommaaGreatDoor
section
namespace Go.Kn
open Go
def zxm {α:Type}(P:Program)(f:FuncId)(cap:List Value)(I:Qu)(K:Loc)(en1 en2:α->Value)(xs:List α):Prop:=
 ∀ g l (J Jx:List α->Qu->Qu->Prop),
  (∀ pre x I' H',pre++[x]<+:xs->HLe I I'->J pre I' H'->W9 P g l [en1 x,en2 x] I' H' fun b I2 H2=>if b then J (pre++[x]) I2 H2 else Jx (pre++[x]) I2 H2)->
  ∀ I0 H w,HLe I I0->J [] I0 H->St g I0 H K w->Calls P f ((.func (.yield l) #[] #[]:Value)::cap).toArray w fun e w'=>∃ v I' H',e= .returned v/\HLe I0 I'/\St g I' H' [] w'/\(J xs I' H'\/∃ pre,pre<+:xs/\Jx pre I' H')
section
variable {s:Type} {C:Cx} {Q:Exit->Act->World->Prop} {E A:Env} {I j:Qu} {r i L R:Loc} {z:Array Oper} {rest:List Oper} {S:GS}
variable {u:List s->Qu->Loc->Prop} {y:Code->List s->Qu->Loc->Prop} {d:List s}
theorem zea {P:Program}{N:Nat}{D:List Deferred}{K:Loc}{g:World}{H:Qu}{c3:Operand}{p q:Nat}{assign body:Code}{f:FuncId}{b3:List Value}{a0 a2:s->Value}{xs:List s}
  (u:List s->Qu->Loc->Prop)(y:Code->List s->Qu->Loc->Prop)(Ja:List s->s->Env->Qu->Loc->Prop)
  (hg:QB [] E c3=some (.func (.func f) #[] b3.toArray))(hF:Fun P f)(d1:zxm P f b3 I K a0 a2 xs)(hp:Nat.blt p N=true)(d9:Nat.blt q N=true)(h0:u [] I r)
  (c4:∀ l d x j i H1,d++[x]<+:xs->HLe I j->u d j i->X ⟨P,some l,N,[],g,H1⟩ (Exit.then (Met ⟨P,some l,N,[],g,H1⟩ fun E2 I2 Y=>HLe j I2/\Ja d x E2 I2 Y) (fun _ _ _=>False)) assign ((q,a2 x)::(p,a0 x)::E) j i)
  (b7:∀ l d x E2 I2 Y H2,d++[x]<+:xs->HLe I I2->Ja d x E2 I2 Y->X ⟨P,some l,N,[],g,H2⟩ (zdx g H2 (fun q0 Z M=>HLe I2 Z/\u q0 Z M) (fun c q0 Z M=>HLe I2 Z/\y c q0 Z M) (d++[x])) body E2 I2 Y)
  (b8:∀ G j i,HLe I j->u xs j i->At ⟨P,none,N,{target:=.collected G,args:= #[]}::D,g,H⟩ Q .normal E j (i++[(G,.deferred (some []))]))
  (c2:∀ c G d j i,HLe I j->d<+:xs->y c d j i->X ⟨P,none,N,{target:=.collected G,args:= #[]}::D,g,H⟩ Q c E j (i++[(G,.deferred (some []))])):
  X ⟨P,none,N,D,g,H⟩ Q (.rangeFunc c3 #[p,q] assign body) E I (K++r):=by
 intro a w ha hw;refine wpIn_rangeFunc fun fn _=>?_;have c6:=run_enterLoop_outer (P:=P) (w:=w) fn a.tmps #[p,q] assign body;generalize d6:w.heap.size=G at c6;let B:LoopState->Option Code->Obj:=fun st pd=>.loop {state:=st,pending:=pd,fn,tmps:=a.tmps,params:= #[p,q],assign,body,defers:=G}
 have d2:St g I H ((G+1,B .ready none)::(G,.deferred (some []))::(K++r)) ((w.alloc (.deferred (some []))).alloc (B .ready none)):=by
  have h1:=hw.alloc (.deferred (some []));have h2:=h1.alloc (B .ready none);rw [World.size_alloc,d6] at h2;exact h2
 have d7:=Qp (S:=[]) ha trivial rfl hg;refine ⟨G+1,[{target:=.collected G,args:= #[]}],_,{target:=.fn (.func f) b3.toArray,args:= #[.func (.yield (G+1)) #[] #[]]},(w.alloc (.deferred (some []))).alloc (B .ready none),f,((.func (.yield (G+1)) #[] #[]:Value)::b3).toArray,(w.alloc (.deferred (some []))).alloc (B .ready none),c6,?_,fun _ _=>trivial,?_,by simp [FR],zav.2 ?_⟩
 ·have e2:a.eval (.const (.func (.yield (G+1)) #[] #[]))= .func (.yield (G+1)) #[] #[]:=rfl;simp only [resolve,OF,jF,Ah,e2,d7,Deferred.ofValue];rfl
 ·simp only [invoke,Ka hF];simp
 let Lr:LoopState->Option Code->Loc->Loc:=fun st pd T=>T++[(G+1,B st pd),(G,.deferred (some []))];have e3:∀ {j H1 T W st pd},St g j H1 (Lr st pd T) W->((Lr st pd T).map (·.1)).Nodup:=fun h=>h.nodup;let J:List s->Qu->Qu->Prop:=fun d j H'=>∃ T,u d j T/\HLe I j/\H'=JH H (Lr .ready none T)/\((Lr .ready none T).map (·.1)).Nodup/\∀ b o,(b,o)∈Lr .ready none T->H b=none;let Jy:List s->Qu->Qu->Prop:=fun d j H'=>∃ c T,y c d j T/\HLe I j/\H'=JH H (Lr .done (some c) T)/\((Lr .done (some c) T).map (·.1)).Nodup/\∀ b o,(b,o)∈Lr .done (some c) T->H b=none
 have d3:St g I H (K++Lr .ready none r) ((w.alloc (.deferred (some []))).alloc (B .ready none)):=by
  have hp:(K++Lr .ready none r).Perm ((G+1,B .ready none)::(G,.deferred (some []))::(K++r)):=by
   show (K++(r++[(G+1,B .ready none),(G,.deferred (some []))])).Perm _;rw [<-js];exact Ap
  exact d2.perm (fun q=>hp.mem_iff) ((hp.map (·.1)).nodup_iff.2 d2.nodup)
 have b4:=d3.rest Q6;have d4:J [] I (JH H (Lr .ready none r)):=⟨r,h0,zJH I,U,b4.nodup,fun b o hm=>(b4.sepIL b o hm).2⟩;refine (d1 g (G+1) J Jy ?_ I _ _ (zJH I) d4 d3.hideR).mono ?_
 ·intro d x j H' b1 hI ⟨T,a6,_,hH,a8,a7⟩ lit W hW;subst hH;have b6:=hW.swap a8 a7;have V:W.heap[G+1]? =some (B .ready none):=b6.own _ _ (by simp [Lr]);refine ⟨fn,_,assign,body,run_yield (P:=P) V kJ,?_⟩
  have c7:UQ N [] ((q,a2 x)::(p,a0 x)::E) {tmps:=(a.tmps.setIfInBounds p (a0 x)).setIfInBounds q (a2 x),defers:=[]}:=by
   have h1:=(ha.put hp (a0 x)).put d9 (a2 x);exact ⟨h1.size,U,h1.env⟩
  have c5:∀ b o,(b,o)∈lit->H b=none:=fun b o hm=>(XR (hW.sepIL b o hm).2).1;refine roundIn_of_wpIn (F:=Fence.wide) trivial ?_;have e1:((#[p,q]:Array Tmp).zip #[a0 x,a2 x]).foldl (fun tmps (t,v)=>tmps.setIfInBounds t v) a.tmps=(a.tmps.setIfInBounds p (a0 x)).setIfInBounds q (a2 x):=(by simp);show Code.wpIn _ _ _ _ _ {tmps:=((#[p,q]:Array Tmp).zip #[a0 x,a2 x]).foldl (fun tmps (t,v)=>tmps.setIfInBounds t v) a.tmps,defers:=[]} _;rw [e1];have hA:=c4 (G+1) d x j T (JH (JH H lit) [(G+1,B .ready none),(G,.deferred (some []))]) b1 hI a6 _ W c7 b6.hideR;refine AY (F:=Fence.wide.inRound (G+1)) (n:=0) (P:=P) (show assign.wpIn (Fence.wide.inRound (G+1)) 0 P _ _ _ from hA) ?_;intro e a1 W1 hq
  cases e with
  | normal=>
   obtain ⟨E2,I2,Y,⟨a5,d5⟩,d8,b0⟩:=hq;have c8:St g I2 (JH H lit) (Y++[(G+1,B .ready none),(G,.deferred (some []))]) W1:=St.unhide (b6.rest Q6) b0;have b9:W1.heap[G+1]? =some (B .ready none):=c8.own _ _ kJ;have c9:=c8.putObj (o':=B .busy none) (b:=G+1) (QN .here);refine ⟨_,run_beginRound (P:=P) b9 U,?_⟩;have hB:=b7 (G+1) d x E2 I2 Y (JH (JH H lit) [(G+1,B .busy none),(G,.deferred (some []))]) b1 (hI.trans a5) d5 a1 _ d8 c9.hideR;refine AY (F:=Fence.wide.inRound (G+1)) (n:=0) (P:=P) (show body.wpIn (Fence.wide.inRound (G+1)) 0 P _ _ _ from hB) ?_
   have fin:∀ (W3:World) (Z:Qu) (M:Loc) (O:Option Code) (st:LoopState),St g Z (JH (JH H lit) [(G+1,B .busy none),(G,.deferred (some []))]) M W3->
     (st=if O.isNone then .ready else .done)->
     ∃ W4,(Instr.endRound (G+1) O).run P W3= .ok (.bool O.isNone) W4/\St g Z (JH H (Lr st O M)) lit W4/\((Lr st O M).map (·.1)).Nodup/\∀ b o,(b,o)∈Lr st O M->H b=none:=by
    intro W3 Z M O st hs e0;have d0:St g Z (JH H lit) (M++[(G+1,B .busy none),(G,.deferred (some []))]) W3:=St.unhide (c9.rest Q6) hs;have c0:W3.heap[G+1]? =some (B .busy none):=d0.own _ _ kJ;have c1:=d0.putObj (o':=B st O) (b:=G+1) (QN .here);refine ⟨_,run_endRound (P:=P) O c0,?_,c1.nodup,fun b o hm=>(XR (c1.sepIL b o hm).2).1⟩;rw [<-e0];exact c1.swap hW.nodup c5
   intro e a3 W3 hq
   cases e with
   | normal=>
    obtain ⟨Z,M,⟨a4,b2⟩,hs⟩:=hq;obtain ⟨W4,h1,h2,h3,h4⟩:=fin W3 Z M none .ready hs U;exact ⟨_,W4,h1,true,Z,_,U,a5.trans a4,h2,M,b2,(hI.trans a5).trans a4,U,h3,h4⟩
   | ret=>
    obtain ⟨Z,M,⟨a4,b2⟩,hs⟩:=hq;obtain ⟨W4,h1,h2,h3,h4⟩:=fin W3 Z M (some .ret) .done hs U;exact ⟨_,W4,h1,false,Z,_,U,a5.trans a4,h2,.ret,M,b2,(hI.trans a5).trans a4,U,h3,h4⟩
   | exit id=>
    obtain ⟨Z,M,⟨a4,b2⟩,hs⟩:=hq;obtain ⟨W4,h1,h2,h3,h4⟩:=fin W3 Z M (some (.exit id)) .done hs U;exact ⟨_,W4,h1,false,Z,_,U,a5.trans a4,h2,.exit id,M,b2,(hI.trans a5).trans a4,U,h3,h4⟩
   | goto t=>exact hq.elim
   | panic c=>exact hq.elim
   | outgrown=>exact hq.elim
  | _=>exact hq.elim
 ·rintro e w' ⟨v,j,H',rfl,hI,hs,hJ | ⟨d,b1,hJ⟩⟩
  ·obtain ⟨T,a6,b5,rfl,a8,a7⟩:=hJ;have a9:=hs.swap a8 a7;have V:w'.heap[G+1]? =some (B .ready none):=a9.own _ _ (by simp [Lr]);have b0:=a9.putObj (o':=B .exhausted none) (b:=G+1) (QN .here);refine ⟨none,_,run_endLoop (P:=P) V kJ,?_⟩;refine b8 G j T b5 a6 _ _ ⟨ha.size,by simp [ha.defers],ha.env⟩ ?_;refine b0.rest (L:=[(G+1,B .exhausted none)]) ?_
   have:YS (T++[(G+1,B .exhausted none),(G,.deferred (some []))]) [(G+1,B .exhausted none)] (T++[(G,.deferred (some []))]):=by
    refine .cons ?_ .nil;clear a7 a8 b0 a9 hs a6 V
    induction T with
    | nil=>exact .here
    | cons q l ih=>exact .there ih
   exact this
  ·obtain ⟨c,T,a6,b5,rfl,a8,a7⟩:=hJ;have a9:=hs.swap a8 a7;have V:w'.heap[G+1]? =some (B .done (some c)):=a9.own _ _ (by simp [Lr]);have b0:=a9.putObj (o':=B .exhausted (some c)) (b:=G+1) (QN .here);refine ⟨some c,_,run_endLoop (P:=P) V kJ,?_⟩;refine c2 c G d j T b5 b1 a6 _ _ ⟨ha.size,by simp [ha.defers],ha.env⟩ ?_;refine b0.rest (L:=[(G+1,B .exhausted (some c))]) ?_
   have:YS (T++[(G+1,B .exhausted (some c)),(G,.deferred (some []))]) [(G+1,B .exhausted (some c))] (T++[(G,.deferred (some []))]):=by
    refine .cons ?_ .nil;clear a7 a8 b0 a9 hs a6 V
    induction T with
    | nil=>exact .here
    | cons q l ih=>exact .there ih
   exact this
end
section
variable {P:Program} {r:Option Nat} {N:Nat} {g:World} {H:Qu} {Q:Exit->Act->World->Prop} {E n:Env} {I d:Qu} {j b L R:Loc} {i:List Nat}
theorem XT {O:Type}{Y:Operand}{p q:Nat}{t A:Code}{f:FuncId}{W:List Value}{K:Loc}{en1 en2:O->Value}{xs:List O}
  (V:List O->Qu->Loc->Prop)(Jx:Code->List O->Qu->Loc->Prop)(Ja:List O->O->Env->Qu->Loc->Prop)
  (hg:QB [] E Y=some (.func (.func f) #[] W.toArray))(hF:Fun P f)(a1:zxm P f W I K en1 en2 xs)(hp:Nat.blt p N=true)(a3:Nat.blt q N=true)(h0:V [] I L)
  (Z:∀ l o x d b H1,o++[x]<+:xs->HLe I d->V o d b->X ⟨P,some l,N,[],g,H1⟩ (Exit.then (Met ⟨P,some l,N,[],g,H1⟩ fun E2 z u=>HLe d z/\Ja o x E2 z u) (fun _ _ _=>False)) t ((q,en2 x)::(p,en1 x)::E) d b)
  (C:∀ l o x E2 z u H2,o++[x]<+:xs->HLe I z->Ja o x E2 z u->X ⟨P,some l,N,[],g,H2⟩ (zdx g H2 (fun q0 T y=>HLe z T/\V q0 T y) (fun c q0 T y=>HLe z T/\Jx c q0 T y) (o++[x])) A E2 z u)
  (F:∀ s d b,HLe I d->V xs d b->At ⟨P,none,N,mk (s::i),g,H⟩ Q .normal E d (b++MB (s::i)))
  (G:∀ c s o d b,HLe I d->o<+:xs->Jx c o d b->X ⟨P,none,N,mk (s::i),g,H⟩ Q c E d (b++MB (s::i))):
  X ⟨P,none,N,mk i,g,H⟩ Q (.rangeFunc Y #[p,q] t A) E I (K++(L++MB i)):=by
 intro a w ha hw
 have back:∀ {d:Qu} {b:Loc} {s:Nat} {M:World},St g d (JH H (MB i)) (b++[(s,.deferred (some []))]) M->St g d H (b++MB (s::i)) M:=fun {d b s M} h=>by
  have h1:=St.unhide ((hw.rest Q6).rest Q6) h;refine h1.perm (fun p=>?_) ?_
  ·simp only [MB,jC];constructor
   ·rintro (h | h | h)
    ·exact .inl (.inl h)
    ·exact .inr h
    ·exact .inl (.inr h)
   ·rintro ((h | h) | h)
    ·exact .inl h
    ·exact .inr (.inr h)
    ·exact .inr (.inl h)
  ·have hn:=h1.nodup
   have a2:(b++MB (s::i)).Perm (b++[(s,.deferred (some []))]++MB i):=by
    rw [js];exact (List.Perm.refl b).append Ap
   exact (a2.map (·.1)).nodup_iff.2 hn
 refine zea (K:=K) (P:=P) (N:=N) (D:=mk i) (g:=g) (H:=JH H (MB i)) (Q:=Q) V Jx Ja hg hF a1 hp a3 h0 Z C ?_ ?_ a w ha (show St g I (JH H (MB i)) (K++L) w from (show St g I H ((K++L)++MB i) w by rw [js];exact hw).hideR)
 ·intro s d b hI hJ a' M B J;exact F s d b hI hJ a' M B (back J)
 ·intro c s o d b hI a0 hJ a' M B J;exact G c s o d b hI a0 hJ a' M B (back J)
end
end Go.Kn
namespace Go.Kn
open Go
section
variable {C:Cx} {Q:Exit->Act->World->Prop} {E s:Env} {I p n:Qu} {l loc' d L R:Loc} {f:Array Oper} {rest:List Oper} {S:GS}
theorem QW {e:Exit}{b:Nat}{o:Obj}(i:Zb l b o loc')(h:∀ p,HLe I p->p b=some o->At C Q e E p loc'):At C Q e E I l:=fun a w g j=>
 let ⟨h1,h2,h3⟩:=j.freeze i;h _ h2 h3 a w g h1
theorem JB {c:Code}(h:l=loc')(a:X C Q c E I loc'):X C Q c E I l:=h ▸ a
theorem zzu (i j k m:Nat){x y ok z:Oper}{fuel:Nat}{b:Array Bool}(A:f[i]? =some x)(B:f[j]? =some y)(D:f[k]? =some ok)(F:f[m]? =some z)(u:Region.ready .any f b=[i,j,k,m])
  (h1:XO C (fun e a w=>match e with | .normal=>St C.g n C.H d w/\VM C.r C.P .any f Q (fun w=>St C.g n C.H d w) fuel (b.setIfInBounds i true) a w | e=>Q e a w) f [x] S E I l)
  (h2:XO C (fun e a w=>match e with | .normal=>St C.g n C.H d w/\VM C.r C.P .any f Q (fun w=>St C.g n C.H d w) fuel (b.setIfInBounds j true) a w | e=>Q e a w) f [y] S E I l)
  (h3:XO C (fun e a w=>match e with | .normal=>St C.g n C.H d w/\VM C.r C.P .any f Q (fun w=>St C.g n C.H d w) fuel (b.setIfInBounds k true) a w | e=>Q e a w) f [ok] S E I l)
  (h4:XO C (fun e a w=>match e with | .normal=>St C.g n C.H d w/\VM C.r C.P .any f Q (fun w=>St C.g n C.H d w) fuel (b.setIfInBounds m true) a w | e=>Q e a w) f [z] S E I l):XD C Q f n d (fuel+1) b S E I l:=by
 intro a w o hg t;refine ⟨(fun h0=>by rw [u] at h0;cases h0),fun q h=>?_⟩;rw [u] at h;rcases jo.1 h with e | h
 ·subst e;exact zco A o hg t h1
 ·rcases jo.1 h with e | h
  ·subst e;exact zco B o hg t h2
  ·rcases jo.1 h with e | h
   ·subst e;exact zco D o hg t h3
   ·obtain rfl:=jM.1 h;exact zco F o hg t h4
end
end Go.Kn
end
namespace Go.Proofs.YtodakphagkommaaGreatDoor
section
open Go Go.Kn Go.Proofs
theorem zml:ke 105:=.of Tryz.func105 kA kA
theorem zji:kl 41:=.of kA
theorem JG:ko 41 79 2:=.of kA
theorem zms:ki 79 2:=.of kA
theorem zma (I:Qu)(C:Option Addr)(n c:Nat):kg 61 [.slice C n c] I [] (fun v i L=>L=[]/\∃ D,v= .func (.func 105) #[] [Zm D].toArray/\i D=some (.cells #[.slice C n c] 41 (0,0))):=by intro g H w h;refine qe Tryz.func61 Tryz.ntmps61 h ?_;have a:=zJH I;refine zR ?_;refine QU U U U (fun b=>?_);refine zA (zN (Qk ?_));refine Zk .here (fun j d f=>?_);have a:=a.trans d;have h1:=f;refine Qh ?_;refine zV (Zn (us:=[]) (vs:=[_]) U U) ?_;refine zA (zN (Qq ?_));exact Zc U U (fun w h=>⟨_,j,[],U,a,h.drop,U,b,U,h1⟩)
variable{I:Qu}{C:Option Addr}{n c D:Nat}{u:List (Int×Int)}
theorem zmN (j:Sl I 2 K6 C n c u)(a1:n<=1000000)(V:∀ p∈u, -1000000<=p.2/\p.2<=1000000)(h1:I D=some (.cells #[.slice C n c] 41 (0,0))):zxm Tryz.prog 105 [Zm D] I [] zHf zIv (zjr u):=by
 intro g y J Y hY Z H w h0 hJ K;have j:=j.mono h0;have h1:=h0 _ _ h1;refine qe Tryz.func105 Tryz.ntmps105 K ?_;have P:=j.len;subst P;refine zR<|zA ?_;refine zN<|zR ?_;refine zV (Qc U zji (fun hg=>by exact QO.imm h1 U)) ?_;refine zQ JG ?_;refine zM<|zN<|Ql ?_;refine zhQ (fun m E M N q=>∃ (k:Nat) (a:Int) (o:List (Int×Int)),m=u.length-k/\E=[(0,.func (.yield y) #[] #[]),(1,Zm D),(3,.int .i64 a),(6,.slice C u.length c),(7,.int .i64 u.length),(8,.int .i64 k)]/\q=[]/\HLe Z M/\k<=u.length/\J o M N/\zjr u=o++KN a (u.drop k)) _ _ _ ⟨0,0,[],U,U,U,zJH _,jd _,hJ,U⟩ kc U ?_;rintro m E M N q ⟨k,a,o,rfl,rfl,rfl,d,hk,s,i⟩;have j:=j.mono d;have h1:=d _ _ h1;have O:=h0.trans d;refine zR<|zC<|zN<|Qk ?_;refine zI ?_ ?_<;>intro F
 ·have T:k<u.length:=kd F;obtain ⟨p,G⟩:=j.at T;refine Qm<|Qa<|Qk<|Ql<|zR ?_;refine zV (zX JG j) ?_;refine zV (Qo U zdc (fun hg=>by exact zJI j G) U) ?_;refine Qv K4 U U (fun a0=>?_);refine zh zms ?_;refine zN<|zR ?_;refine zV (Zh U U Yx (fun hg=>by decide)) ?_;refine zL Qr ?_;refine zC<|zN ?_;refine zI ?_ ?_<;>intro f
  ·refine Qh ?_;refine zV (Zh U U Yx (fun hg=>by decide)) ?_;refine zL Qr ?_;refine zA<|Qe<|Qg<|Qa<|Qh ?_;refine zB ?_;refine zM<|Qe ?_;exact zbA U U U _ [] ⟨u.length-(k+1),kB,k+1,p.1,o,U,U,U,d,kB,s,by rw [i,zyC G f]⟩ kc (.drop .refl)
  have h:=zxg i G f;refine zR<|zM ?_;refine zM ?_;refine zV (Zh U U Yx (fun hg=>by decide)) ?_;refine zL Qr ?_;refine zV (Zf U U U (fun _=>by (have a2:=V p (je G);omega))) ?_;refine zgS (vs:=[_,_]) (Post:=fun b z x=>if b then J (o++[(a,p.2-1)]) z x else Y (o++[(a,p.2-1)]) z x) U U U U (hY o (a,p.2-1) _ _ h O s) ?_;rintro t z x A B;refine zO<|zN ?_;refine zI ?_ ?_<;>intro l
  ·have W:t=false:=(by simpa using l);subst W;have r:Y (o++[(a,p.2-1)]) z x:=B;refine Qq<|Qn<|Qb<|Qb<|Qn ?_;exact VQ U (fun w K=>⟨_,z,x,U,d.trans A,K.drop,.inr ⟨_,h,r⟩⟩)
  have W:t=true:=(by simpa using l);subst W;have r:J (o++[(a,p.2-1)]) z x:=B;refine Qm<|Qg<|Qa<|Qh<|zB ?_;refine zM<|Qe ?_
  first
  | exact zbA U U U _ [] ⟨u.length-(k+1),kB,k+1,a,o++[(a,p.2-1)],U,U,U,d.trans A,kB,r,by rw [i,zwj G f,js];rfl⟩ kc (.drop .refl)
 have Q:u.length<=k:=kd F;refine Qy<|Qf<|Qf<|Qj ?_
 first
 | exact JO (VQ U (fun w K=>⟨_,M,N,U,d,K,.inl (by rw [zAu i Q];exact s)⟩))
def Vk (n:Nat)(f:Nat->Int):List Int:=(List.range n).map f
def Ky {F:Type}(f:Nat->F)(a:Nat)(v:F):Nat->F:=fun j=>if j=a then v else f j
def Vw (f:Nat->Nat):Nat->Int:=fun j=>((f j:Nat):Int)
variable{f:Nat->Int}
theorem Z1 :(Vk n f).length=n:=by unfold Vk;simp
variable{a:Nat}
theorem YC (h:a<n):(Vk n f)[a]? =some (f a):=by unfold Vk;simp [h]
variable{F:Type}{v:F}
theorem V0 {f:Nat->F}:Ky f a v a=v:=jb U
theorem KF {f:Nat->F}{j:Nat}(h:j≠a):Ky f a v j=f j:=ja h
theorem JX {v:Int}:(Vk n f).set a v=Vk n (Ky f a v):=by
 apply Ad;intro j;rw [List.getElem?_set];by_cases b:j<n
 ·rw [YC b,YC b,Z1];by_cases h:a=j
  ·subst h;rw [V0];simp [b]
  ·rw [ja h,KF (Bu h)]
 ·rw [Ol (l:=Vk n (Ky f a v)) kN,Z1];by_cases h:a=j
  ·subst h;simp [b]
  ·rw [ja h,Ol kN]
theorem Zo :List.replicate n (0:Int)=Vk n (fun _=>0):=by apply Ad;intro j;unfold Vk;by_cases h:j<n<;>simp [h]
theorem zcg {f:Nat->Nat}{v:Nat}:Ky (Vw f) a (v:Int)=Vw (Ky f a v):=by
 funext j;by_cases h:j=a
 ·subst h;rw [V0];unfold Vw;rw [V0]
 ·rw [KF h];unfold Vw;rw [KF h]
theorem Xw:(fun _=>0:Nat->Int)=Vw (fun _=>0):=by funext j;rfl
variable{b:Nat}
theorem zrg :znQ (a:Int) (b:Int)=((max a b:Nat):Int):=by unfold znQ;split<;>omega
def cnt (o:List (Int×Int)):Nat->Nat:=o.foldl (fun c q=>Ky c q.1.toNat (c q.1.toNat+1)) (fun _=>0)
variable{o:List (Int×Int)}{q:Int×Int}
theorem Wx :cnt (o++[q])=Ky (cnt o) q.1.toNat (cnt o q.1.toNat+1):=by unfold cnt;rw [Oh];rfl
theorem zfb (h:q.1.toNat=a):cnt (o++[q]) a=cnt o a+1:=by rw [Wx,h];unfold Ky;rw [jb rfl]
theorem zFp :cnt o a<=cnt (o++[q]) a:=by
 rw [Wx];unfold Ky;split
 ·rename_i h;subst h;omega
 ·exact jn _
theorem zl2 (o:List (Int×Int))(a:Nat):∀ (r:Nat) (d:List (Int×Int)),d.length<=r->cnt o a<=cnt (o++d) a:=by
 intro r d _
 induction d generalizing o with
 | nil=>simp
 | cons q d ih=>
  have h1:=ih (o++[q]) (by simp at*;omega);rw [js] at h1;exact jO zFp h1
theorem zwW {g:List (Int×Int)}(h:o<+:g):cnt o a<=cnt g a:=by obtain ⟨d,rfl⟩:=h;exact zl2 o a d.length d (jn _)
theorem zlU (d:List (Int×Int)):∀ (c:Nat->Nat) (a:Nat),(d.foldl (fun c q=>Ky c q.1.toNat (c q.1.toNat+1)) c) a<=c a+d.length:=by
 induction d with
 | nil=>intro c a;simp
 | cons q d ih=>
  intro c a;rw [Of];have h:=ih (Ky c q.1.toNat (c q.1.toNat+1)) a;have h2:Ky c q.1.toNat (c q.1.toNat+1) a<=c a+1:=(by unfold Ky;split<;>(try (rename_i e;subst e))<;>omega);rw [jx];omega
theorem zhG {o:List (Int×Int)}{a:Nat}:cnt o a<=o.length:=by have h:=zlU o (fun _=>0) a;unfold cnt;omega
def wmx (w:Nat->Nat)(o:List (Int×Int)):Nat->Nat:=fun a=>max (w a) (cnt o a)
def wdF (al:Nat->List (Int×Int)):Nat->Nat->Nat
 | 0=>fun _=>0
 | i+1=>wmx (wdF al i) (al i)
variable{w:Nat->Nat}
theorem zpx :wmx w []=w:=by funext a;unfold wmx;show max (w a) 0=w a;omega
theorem ztQ (h:q.1.toNat=a):Ky (wmx w o) a (max (wmx w o a) (cnt (o++[q]) a))=wmx w (o++[q]):=by
 funext j;unfold Ky;split
 ·rename_i e;subst e;rw [zfb h];show max (max (w j) (cnt o j)) (cnt o j+1)=max (w j) (cnt (o++[q]) j);rw [zfb h];omega
 ·rename_i e;show max (w j) (cnt o j)=max (w j) (cnt (o++[q]) j);rw [Wx,h];unfold Ky;rw [ja e]
variable{al:Nat->List (Int×Int)}
theorem zxT (h:al 0=[]):wdF al 1=fun _=>0:=by show wmx (wdF al 0) (al 0)=_;rw [h,zpx];rfl
theorem zgt {al:Nat->List (Int×Int)}{B:Nat}(h:∀ j,(al j).length<=B):∀ (i a:Nat),wdF al i a<=B
 | 0,a=>jd _
 | i+1,a=>by
  show max (wdF al i a) (cnt (al i) a)<=B;have h1:=zgt h i a;have h2:=@zhG (al i) a;have h3:=h i;omega
theorem zfF {al:Nat->List (Int×Int)}{j:Nat}:∀ {i a:Nat},j<i->cnt (al j) a<=wdF al i a
 | 0,_,h=>kB
 | i+1,a,h=>by
  show _<=max (wdF al i a) (cnt (al i) a);by_cases e:j=i
  ·subst e;omega
  ·have:=zfF (al:=al) (a:=a) (show j<i by omega);omega
def Y6 (w:Nat->Nat):Nat->Nat
 | 0=>0
 | k+1=>Y6 w k+(w k+1)
theorem zh6 {w:Nat->Nat}{B:Nat}(h:∀ a,w a<=B):∀ k,Y6 w k<=k*(B+1)
 | 0=>jd _
 | k+1=>by
  have h1:=zh6 h k;have h2:=h k;show Y6 w k+(w k+1)<=_;rw [O9];omega
theorem zaK {w:Nat->Nat}{k:Nat}:∀ {j:Nat},k<j->Y6 w k+w k+1<=Y6 w j
 | 0,h=>kB
 | j+1,h=>by
  show _<=Y6 w j+(w j+1);by_cases e:k=j
  ·subst e;omega
  ·have:=zaK (w:=w) (show k<j by omega);omega
theorem zmY {w:Nat->Nat}:∀ k,k<=Y6 w k
 | 0=>jn _
 | k+1=>by have:=zmY (w:=w) k;show k+1<=Y6 w k+(w k+1);omega
def atK (w:Nat->Nat)(k:Nat):Nat->Nat:=fun j=>if j<k then Y6 w j else 0
theorem zs3 :atK w 0=fun _=>0:=by funext j;unfold atK;simp
variable{k:Nat}
theorem zsm :Ky (atK w k) k (Y6 w k)=atK w (k+1):=by
 funext j;unfold Ky atK;by_cases e:j=k
 ·subst e;rw [jb rfl,jb kB]
 ·rw [ja e];by_cases h:j<k
  ·rw [jb h,jb kB]
  ·rw [ja h,ja kB]
theorem zyg :Vk n (Vw (atK w n))=Vk n (Vw (Y6 w)):=by unfold Vk;refine OK fun j d=>?_;unfold Vw atK;rw [jb (jq.1 d)]
def txF (w:Nat->Nat)(T:List Int):Nat->Nat->Int
 | 0=>fun _=>0
 | k+1=>Ky (txF w T k) (Y6 w k+w k) (T.getD k 0)
def prF (w:Nat->Nat)(l:List Int)(f:Nat->Int)(y:Int×Int):Nat->Int:=
 if (decide (y.1>0)&&decide (y.2>0))=true then Ky f (Y6 w (y.1-1).toNat+w (y.1-1).toNat) (l.getD (y.2-1).toNat 0) else f
def alS (w:Nat->Nat)(l:List Int)(s:(Nat->Int)×(Nat->Nat))(q:Int×Int):(Nat->Int)×(Nat->Nat):=
 (Ky s.1 (Y6 w q.1.toNat+s.2 q.1.toNat) (l.getD q.2.toNat 0),Ky s.2 q.1.toNat (s.2 q.1.toNat+1))
def alP (w:Nat->Nat)(l:List Int)(f:Nat->Int)(o:List (Int×Int)):(Nat->Int)×(Nat->Nat):=o.foldl (alS w l) (f,fun _=>0)
variable{l:List Int}
theorem zzF :(alP w l f o).2=cnt o:=by
 have key:∀ (f:Nat->Int) (c:Nat->Nat),(o.foldl (alS w l) (f,c)).2=o.foldl (fun c q=>Ky c q.1.toNat (c q.1.toNat+1)) c:=by
  induction o with
  | nil=>intro f c;rfl
  | cons q o ih=>intro f c;rw [Of,Of];exact ih _ _
 exact key f _
theorem zdP :(alP w l f (o++[q])).1=Ky (alP w l f o).1 (Y6 w q.1.toNat+cnt o q.1.toNat) (l.getD q.2.toNat 0):=by rw [<-zzF (w:=w) (l:=l) (f:=f)];unfold alP;rw [Oh];rfl
def KZ (w:Nat->Nat)(T l:List Int)(i:Nat)(u:List (Int×Int)):Nat->Int:=
 (alP w l (u.foldl (prF w l) (if i=0 then txF w T T.length else fun _=>0)) (zjr u)).1
variable{y:Int×Int}
theorem zjj (d:u[k]? =some y):(u.take (k+1)).foldl (prF w l) f=prF w l ((u.take k).foldl (prF w l) f) y:=by rw [jz,d,Oh];rfl
def zEN (x:Wr):List Int:=x.rs.map Yu
def csW (xs:List Wr)(i:Nat):List Int:=((xs[i]?).map zEN).getD []
def pfW (xs:List Wr)(i:Nat):List (Int×Int):=if i=0 then [] else JS (csW xs 0) (csW xs i)
def alW (xs:List Wr)(i:Nat):List (Int×Int):=zjr (pfW xs i)
def wdW (xs:List Wr):Nat->Nat:=wdF (alW xs) xs.length
def loW (xs:List Wr):Nat:=Y6 (wdW xs) ((csW xs 0).length+1)-1
def zc0 (xs:List Wr)(i:Nat):List Int:=Vk (loW xs) (KZ (wdW xs) (csW xs 0) (csW xs i) i (pfW xs i))
def UV (xs:List Wr):Int:=if (WF xs != 0||xs.length==0)=true then WF xs else if loW xs>256 then 2 else 0
def K9 (xs:List Wr):List (List Int):=if (WF xs != 0||xs.length==0)=true\/loW xs>256 then [] else (List.range xs.length).map (zc0 xs)
variable{xs:List Wr}
theorem znA (h:(WF xs != 0||xs.length==0)=true):UV xs=WF xs/\K9 xs=[]:=by unfold UV K9;rw [jb h,jb (.inl h)];exact ⟨U,U⟩
theorem zze (h:(WF xs != 0||xs.length==0)=false)(h2:loW xs>256):UV xs=2/\K9 xs=[]:=by unfold UV K9;rw [ja (by rw [h];decide),jb h2,jb (.inr h2)];exact ⟨U,U⟩
theorem zx6 (h:(WF xs != 0||xs.length==0)=false)(h2:¬loW xs>256):UV xs=0/\K9 xs=(List.range xs.length).map (zc0 xs):=by unfold UV K9;rw [ja (by rw [h];decide),ja h2,ja (by rw [h];simp;omega)];exact ⟨U,U⟩
variable{i:Nat}{x:Wr}
theorem zaP (h:xs[i]? =some x):csW xs i=x.rs.map Yu:=by unfold csW;rw [h];rfl
theorem ze1 :alW xs 0=[]:=rfl
def QOK (m n:Nat)(p:Int×Int):Prop:=∃ i k:Nat,p=((i:Int),(k:Int))/\i<=m/\k<=n/\(0<i\/0<k)
theorem ztU {a b:List Int}:∀ (f i k:Nat),i<=a.length->k<=b.length->(∀ p∈paF a b f i k,QOK a.length b.length p)/\(paF a b f i k).length<=f
 | 0,_,_,_,_=>⟨(fun p d=>by cases d),jn _⟩
 | f+1,i,k,hi,hk=>by
  unfold paF;split
  ·rename_i hg;split
   ·rename_i g;have h1:i<a.length/\k<b.length:=(by unfold UT at g;simp at g;omega);have ih:=ztU f (i+1) (k+1) h1.1 h1.2;refine ⟨fun p d=>?_,by rw [jx];omega⟩;rcases jo.1 d with rfl | d
    ·exact ⟨i+1,k+1,U,h1.1,h1.2,kB⟩
    ·exact ih.1 p d
   ·rename_i g;split
    ·rename_i h;have h1:i<a.length:=(by unfold zfB at h;simp at h;omega);have ih:=ztU f (i+1) k h1 hk;refine ⟨fun p d=>?_,by rw [jx];omega⟩;rcases jo.1 d with rfl | d
     ·exact ⟨i+1,0,U,h1,jd _,kB⟩
     ·exact ih.1 p d
    ·rename_i h;have h1:k<b.length:=zg2 hi hk (by simp at hg;omega) (by simpa using g) (by simpa using h);have ih:=ztU f i (k+1) hi h1;refine ⟨fun p d=>?_,by rw [jx];omega⟩;rcases jo.1 d with rfl | d
     ·exact ⟨0,k+1,U,jd _,h1,kB⟩
     ·exact ih.1 p d
  ·exact ⟨(fun p d=>by cases d),jd _⟩
theorem zgy {a b:List Int}:(∀ p∈JS a b,QOK a.length b.length p)/\(JS a b).length<=a.length+b.length:=by
 unfold JS;split
 ·exact ⟨(fun p d=>by cases d),jd _⟩
 ·exact ztU _ 0 0 (jd _) (jd _)
theorem zox {m n:Nat}:∀ (u:List (Int×Int)) (a:Nat),a<=m->(∀ p∈u,QOK m n p)->(∀ q∈KN (a:Int) u,∃ c r:Nat,q=((c:Int),(r:Int))/\c<=m/\r<n)/\(KN (a:Int) u).length<=u.length
 | [],_,_,_=>⟨(fun q d=>by cases d),jn _⟩
 | p::u,a,ha,h=>by
  obtain ⟨i,k,rfl,j,z,h0⟩:=h p (jl ..);unfold KN;split
  ·have ih:=zox u i j fun p g=>h p (jm _ g);exact ⟨ih.1,Nat.le_succ_of_le ih.2⟩
  ·rename_i t;have s:i=0:=(by simp at t;omega);have ih:=zox u a ha fun p g=>h p (jm _ g);refine ⟨fun q d=>?_,by rw [jx,jx];omega⟩;rcases jo.1 d with rfl | d
   ·exact ⟨a,k-1,by simp;omega,ha,kB⟩
   ·exact ih.1 q d
theorem X3 :(∀ p∈pfW xs i,QOK (csW xs 0).length (csW xs i).length p)/\(pfW xs i).length<=(csW xs 0).length+(csW xs i).length:=by
 unfold pfW;split
 ·exact ⟨(fun p d=>by cases d),jd _⟩
 ·exact zgy
theorem zv2 :(∀ q∈alW xs i,∃ c r:Nat,q=((c:Int),(r:Int))/\c<=(csW xs 0).length/\r<(csW xs i).length)/\(alW xs i).length<=(csW xs 0).length+(csW xs i).length:=by have h:=zox (pfW xs i) 0 (jd _) (X3 (xs:=xs) (i:=i)).1;exact ⟨h.1,jO h.2 X3.2⟩
variable{B:Nat}
theorem UW (h:∀ x∈xs,x.rs.length<=B):(csW xs i).length<=B:=by
 unfold csW
 cases d:xs[i]? with
 | none=>exact jd _
 | some x=>
  have:=h x (je d);show (x.rs.map Yu).length<=B;rw [ju];exact this
def PrQ (I:Qu)(xs:List Wr)(z:List Hd)(i:Nat):Prop:=∀ j,j<i->∃ h,z[j]? =some h/\h.n=(pfW xs j).length/\Sl I 2 K6 h.a h.n h.c (pfW xs j)
variable{z:List Hd}
theorem PrQ.mono {d:Qu}(h:PrQ I xs z i)(g:HLe I d):PrQ d xs z i:=fun j p=>by
 obtain ⟨x,h1,h2,h3⟩:=h j p;exact ⟨x,h1,h2,h3.mono g⟩
theorem PrQ.start (d:0<n):PrQ I xs (List.replicate n ⟨none,0,0⟩) 1:=fun j g=>by
 obtain rfl:j=0:=kB;exact ⟨_,by simp [d];rfl,U,.nil⟩
theorem PrQ.put {a:Option Addr}(h:PrQ I xs z i)(r:0<i)(d:i<z.length)(g:Sl I 2 K6 a n c (JS (csW xs 0) (csW xs i))):PrQ I xs (z.set i ⟨a,n,c⟩) (i+1):=fun j s=>by
 have p:pfW xs i=JS (csW xs 0) (csW xs i):=(by unfold pfW;rw [ja kB]);by_cases e:j=i
 ·subst e;exact ⟨⟨a,n,c⟩,by rw [AE d],by rw [p];exact g.len.symm,by rw [p];exact g⟩
 ·obtain ⟨x,h1,h2,h3⟩:=h j kB;exact ⟨x,by rw [BG (Bu e)];exact h1,h2,h3⟩
theorem Xc (A:List Int)(m:Nat)(b:Int):(Zl A).setIfInBounds (m*1) (.int .i64 b)=Zl (A.set m b):=by unfold Zl;rw [KC,KC,Om,Aj,B4]
variable{A:List Int}{m:Nat}
theorem zEO (h:m<A.length):Nat.blt (m*1) (Zl A).size=true:=by unfold Zl;rw [KC,Om];simpa [AW] using h
variable{t:Nat}{h:Hd}
theorem Wm {l:Go.Kn.Loc}(e:z[k]? =some h):QO I ((b,.cells (Vu z) t (0,0))::l) b (k*1) (.slice h.a h.n h.c):=by refine .here ?_;rw [Ve];unfold Vu;rw [zcm,Om];simp [e]
variable{G:List Value}{M:Nat×Nat}
theorem Cells.imm {l:Go.Kn.Loc}(h:I b=some (.cells G.toArray t M)):Cells I l b 0 G:=fun j v d=>.imm h (by rw [Ve,Oj];simpa using d)
theorem ziD (h:(WF xs != 0||xs.length==0)=false):WF xs=0/\0<xs.length/\xs.length<=24/\∀ x∈xs,x.rs.length<=64:=by
 have h1:WF xs=0/\¬xs.length=0:=(by simpa using h);obtain ⟨h1,h2⟩:=h1;unfold WF at h1;split at h1
 ·cases h1
 ·rename_i h3;split at h1
  ·cases h1
  ·rename_i h4;refine ⟨by unfold WF;rw [ja h3,ja h4];exact h1,kB,kB,fun x d=>?_⟩;have h5:xs.any (fun x=>decide (x.rs.length>64))=false:=(by simpa using h4);have:=jL.1 h5 x d;simp at this;omega
theorem zvC (h:o++[q]<+:alW xs i):0<=q.1/\q.1.toNat<(csW xs 0).length+1/\0<=q.2/\q.2.toNat<(csW xs i).length/\cnt o q.1.toNat<cnt (alW xs i) q.1.toNat:=by obtain ⟨c,r,rfl,h1,h2⟩:=zv2.1 q (h.subset kJ);have h3:=zwW (a:=((c:Int),(r:Int)).1.toNat) h;rw [zfb rfl] at h3;exact ⟨by simp,by simp;omega,by simp,by simpa using h2,h3⟩
theorem zlf (h:∀ x∈xs,x.rs.length<=64)(i:Nat):(alW xs i).length<=128:=by have h1:=(zv2 (xs:=xs) (i:=i)).2;have h2:=UW (i:=0) h;have h3:=UW (i:=i) h;omega
theorem zEo (h:(pfW xs i)[k]? =some y):0<=y.1/\y.1<=(csW xs 0).length/\0<=y.2/\y.2<=(csW xs i).length:=by obtain ⟨a,b,rfl,h1,h2,_⟩:=X3.1 y (je h);simp;omega
theorem zFy (d:∀ x∈xs,x.rs.length<=64)(i:Nat):∀ p∈pfW xs i, -1000000<=p.2/\p.2<=1000000:=fun p g=>by
 obtain ⟨a,b,rfl,h1,h2,_⟩:=X3.1 p g;have:=UW (i:=i) d;simp;omega
theorem zum (h:k<(csW xs 0).length):Y6 (wdW xs) k+wdW xs k<loW xs:=by have h1:=zaK (w:=wdW xs) (show k<k+1 by omega);have h2:=zaK (w:=wdW xs) (show k+1<(csW xs 0).length+1 by omega);have h3:Y6 (wdW xs) (k+1)=Y6 (wdW xs) k+(wdW xs k+1):=rfl;unfold loW;omega
theorem zyx (d:a<(csW xs 0).length+1)(g:i<xs.length)(j:c<cnt (alW xs i) a):Y6 (wdW xs) a+c<loW xs:=by have h1:=zaK (w:=wdW xs) d;have h2:cnt (alW xs i) a<=wdW xs a:=zfF g;unfold loW;omega
theorem zHs :((Y6 (wdW xs) ((csW xs 0).length+1):Nat):Int)-1=((loW xs:Nat):Int):=by have:=zmY (w:=wdW xs) ((csW xs 0).length+1);unfold loW;omega
theorem zoL (h:(decide (y.1>0)&&decide (y.2>0))=true):prF w l f y=Ky f (Y6 w (y.1-1).toNat+w (y.1-1).toNat) (l.getD (y.2-1).toNat 0):=by unfold prF;rw [jb h]
theorem zu9 (h:(decide (y.1>0)&&decide (y.2>0))=false):prF w l f y=f:=by unfold prF;rw [ja (by rw [h];decide)]
theorem zr0 {f g:Nat->Nat}:znQ (Vw f a) (Vw g a)=((max (f a) (g a):Nat):Int):=zrg
theorem zfg {f:Nat->Nat}(h:f a<=B):0<=Vw f a/\Vw f a<=(B:Int):=by unfold Vw;omega
theorem zbg :((n:Int)==0)=(n==0):=by rw [jI];simp
theorem zCX:ke 58:=.of Tryz.func58 kA kA
theorem JJ:ke 59:=.of Tryz.func59 kA kA
theorem zFI:ke 60:=.of Tryz.func60 kA kA
theorem zuj:ke 61:=.of Tryz.func61 kA kA
theorem zzV:MkT Tryz.prog 133 41 24 (.slice none 0 0):=⟨kA,kA,U⟩
theorem zew:ko 133 41 1:=.of kA
theorem zEJ:ki 41 1:=.of kA
set_option maxHeartbeats 40000000 in
theorem zmB     (o1:SlW I C n c xs) (hn:n<=100000):kg 27 [.slice C n c] I [] (XH (UV xs) (K9 xs)):=by
 intro g H w hw;refine zhn Tryz.func27 U Tryz.ntmps27 U hw ?_;have b0:=zJH I;obtain ⟨ws,hW⟩:=id o1;have hH:=hW.1;have q3:=hW.len;subst q3;refine zR<|zA ?_;refine zA<|zN<|Qk<|zR ?_;refine zM ?_;refine qcV (vs:=[_]) U zCX (zEC o1 hn) ?_;refine zA ?_;refine zN<|zR ?_;refine zM ?_;refine zC ?_;refine zM ?_;refine QI 2 U U U ?_;refine zJ (Qd U) ?_;refine zJ (Zs U Z9) ?_;refine zJ (Qx U U U) ?_;refine Q5 U U U U U ?_;refine zN ?_;refine zI ?_ ?_<;>intro d3
 ·rw [zbg] at d3;refine zR<|zM ?_;refine zA ?_;refine zA<|zN<|Qq<|Qb ?_
  first
  | exact Wz (L:=[]) (fun a ha w hw=>zFS U U U a ha w) (fun w hw=>⟨_,I,[],U,b0,hw.drop,by rw [(znA d3).1];exact XH.empty (znA d3).2⟩)
 rw [zbg] at d3;obtain ⟨z4,p1,r5,b9⟩:=ziD d3;obtain ⟨w0,x0,q8,p0,z2,z3,n7⟩:=hW.at (k:=0) kB;have o4:x0.rs.map Yu=csW xs 0:=(zaP p0).symm;have r2:=UW (i:=0) b9;have r3:=n7.len;have r4:=b9 x0 (je p0);refine Qm<|Qa<|zR<|zM ?_;refine zV (zX Z9 hH) ?_;refine zV (Qo U XC (fun hg=>by exact zJI hH q8) U) ?_;refine zpc [_] U JJ .nil (Vg n7 kB _ _) ?_;rintro vv1 I1 L1 b2 ⟨rfl,y9,c4,rfl,hT⟩;have hW:=hW.mono b2;have hH:=hH.mono b2;have b0:=b0.trans b2;rw [o4] at hT ⊢;refine zA ?_;refine zN<|zR ?_;refine zM ?_;refine zQ Z9 ?_;refine Q1 zzV U U kB kC U U (fun b1=>?_);refine zA<|Qe ?_;rw [show ((xs.length:Nat):Int).toNat=xs.length from U,zdJ];refine Qa<|zR<|zM ?_;refine zQ Qt ?_;refine zB ?_;refine Q1 Y7 U U kB kC U U (fun a7=>?_);refine Qv Vi U U (fun l8=>?_);refine zS Ze ?_;refine Qe ?_;have e1:(((csW xs 0).length:Nat):Int)+1=(((csW xs 0).length+1:Nat):Int):=rfl;rw [e1,show (((csW xs 0).length+1:Nat):Int).toNat=(csW xs 0).length+1 from U,Q8,Zo,Xw];refine Zk (b:=l8) (by repeat (first | exact Zb.here | apply Zb.there)) (fun I2 b3 p9=>?_);have hW:=hW.mono b3;have hH:=hH.mono b3;have hT:=hT.mono b3;have b0:=b0.trans b3;have Y:QO I2 [] l8 0 (.slice (some ⟨a7,0,none⟩) ((csW xs 0).length+1) ((csW xs 0).length+1)):=.imm p9 U;refine Qa<|Qk<|Qk ?_;have q7:=zxT (al:=alW xs) ze1;refine JB (loc':=(a7,.cells (Zl (Vk ((csW xs 0).length+1) (Vw (wdF (alW xs) 1)))) 3 (0,0))::(b1,.cells (Vu (List.replicate xs.length ⟨none,0,0⟩)) 41 (0,0))::MB []) (by rw [q7];rfl) ?_;refine Qh<|zA<|zN<|Ql ?_;refine WZ [(0,_),(2,_),(4,_),(5,_),(6,_)] kc (fun T L0 mz ms E I' P=>∃ (i:Nat) (z:List Hd),mz=xs.length-i/\E=(7,.int .i64 i)::T/\HLe I2 I'/\(a7,.cells (Zl (Vk ((csW xs 0).length+1) (Vw (wdF (alW xs) i)))) 3 (0,0))::(b1,.cells (Vu z) 41 (0,0))::MB ms=P/\i<=xs.length/\1<=i/\z.length=xs.length/\PrQ I' xs z i) _ _ _ _ ⟨1,_,U,U,zJH _,U,p1,jn _,by rw [A5],PrQ.start p1⟩ kc (zJH _) U ?_;rintro mz ms E J3 P ⟨i,z,rfl,rfl,hJ,rfl,hi,z6,o7,c3⟩;have hW:=hW.mono hJ;have hH:=hH.mono hJ;have hT:=hT.mono hJ;have Y:=Y.mono hJ;have b0:=b0.trans hJ;have d0:=hJ;refine Qk<|zR<|zM ?_;refine zM ?_;refine zQ Z9 ?_;refine zC<|zN ?_;refine zI ?_ ?_<;>intro l6
 ·have d4:i<xs.length:=kd l6;obtain ⟨w,x,hx,hv,e1,e2,hR⟩:=hW.at d4;have W:x.rs.map Yu=csW xs i:=(zaP hv).symm;have p7:=UW (i:=i) b9;have p8:=hR.len;have q9:=b9 x (je hv);refine Qm<|Qa<|Qk<|Ql<|zR<|zM ?_;refine zM ?_;refine zM ?_;refine zM ?_;refine zM ?_;refine zV (zX Z9 hH) ?_;refine zV (Qo U XC (fun hg=>by exact zJI hH hx) U) ?_;refine zpc [_] U JJ .nil (Vg hR kB _ _) ?_;rintro vv4 I4 L4 j1 ⟨rfl,z0,c7,rfl,n9⟩;have hT:=hT.mono j1;have Y:=Y.mono j1;have c3:=c3.mono j1;have d0:=d0.trans j1;rw [W] at n9 ⊢;refine zpc [_,_] U zFI .nil (zDu hT n9 kB kB) ?_;rintro vv5 I5 L5 m8 ⟨rfl,z8,d9,c8,rfl,n6⟩;have Y:=Y.mono m8;have c3:=c3.mono m8;have d0:=d0.trans m8;refine zM ?_;refine zE ?_;refine zE ?_;refine zE ?_;refine zV (QD U U zew (fun hg=>kB)) ?_;refine Zx U U zEJ U U (by repeat (first | exact Upd.here | apply Upd.there | apply QN)) (zI7 kB) ?_;refine Qe ?_;rw [show (#[Value.int .i64 z8,Value.slice d9 (JS (csW xs 0) (csW xs i)).length c8,Value.int .i64 (zba (csW xs 0) (csW xs i))]:Array Value)[1]=Value.slice d9 (JS (csW xs 0) (csW xs i)).length c8 from U,zdb];have d2:=c3.put kB kB n6;have j3:(z.set i ⟨d9,(JS (csW xs 0) (csW xs i)).length,c8⟩)[i]? =some ⟨d9,(JS (csW xs 0) (csW xs i)).length,c8⟩:=AE kB;have o9:pfW xs i=JS (csW xs 0) (csW xs i):=(by unfold pfW;rw [ja kB]);have f8:Sl I5 2 K6 d9 (JS (csW xs 0) (csW xs i)).length c8 (pfW xs i):=(by rw [o9];exact n6);have q5:=(X3 (xs:=xs) (i:=i)).2;have hpr:=(zgy (a:=(csW xs 0)) (b:=(csW xs i))).2;refine Qa<|zR<|zM ?_;refine zQ Qt ?_;refine zB ?_;refine Q1 Y7 U U kB kC U U (fun d7=>?_);refine Qv Vi U U (fun m6=>?_);refine zS Ze ?_;refine Qe ?_;have e1:(((csW xs 0).length:Nat):Int)+1=(((csW xs 0).length+1:Nat):Int):=rfl;rw [e1,show (((csW xs 0).length+1:Nat):Int).toNat=(csW xs 0).length+1 from U,Q8,Zo,Xw];refine Zk (b:=m6) (by repeat (first | exact Zb.here | apply Zb.there)) (fun I6 j2 q0=>?_);have Y:=Y.mono j2;have d2:=d2.mono j2;have f8:=f8.mono j2;have d0:=d0.trans j2;have e8:QO I6 [] m6 0 (.slice (some ⟨d7,0,none⟩) ((csW xs 0).length+1) ((csW xs 0).length+1)):=.imm q0 U;refine Qa<|zR<|zM ?_;refine zM ?_;refine zV (QD U U zew (fun hg=>kB)) ?_;refine zV (Qc U zji (fun hg=>by exact zJB (zJB (Wm j3)))) ?_;refine zpc [_] U zuj .nil (zma _ _ _ _) ?_;rintro vv7 I7 L7 f6 ⟨rfl,D,rfl,m9⟩;have Y:=Y.mono f6;have d2:=d2.mono f6;have f8:=f8.mono f6;have e8:=e8.mono f6;have d0:=d0.trans f6;refine zN<|Ql ?_;refine JB (loc':=[]++(((d7,.cells (Zl (Vk ((csW xs 0).length+1) (Vw (cnt [])))) 3 (0,0))::(a7,.cells (Zl (Vk ((csW xs 0).length+1) (Vw (wmx (wdF (alW xs) i) [])))) 3 (0,0))::(b1,.cells (Vu (z.set i ⟨d9,(JS (csW xs 0) (csW xs i)).length,c8⟩)) 41 (0,0))::[])++MB ms)) (by rw [zpx];rfl) ?_;refine XT (K:=[]) (L:=(d7,.cells (Zl (Vk ((csW xs 0).length+1) (Vw (cnt [])))) 3 (0,0))::(a7,.cells (Zl (Vk ((csW xs 0).length+1) (Vw (wmx (wdF (alW xs) i) [])))) 3 (0,0))::(b1,.cells (Vu (z.set i ⟨d9,(JS (csW xs 0) (csW xs i)).length,c8⟩)) 41 (0,0))::[]) (en1:=zHf) (en2:=zIv) (xs:=alW xs i) (fun o I' P=>P=(d7,.cells (Zl (Vk ((csW xs 0).length+1) (Vw (cnt o)))) 3 (0,0))::(a7,.cells (Zl (Vk ((csW xs 0).length+1) (Vw (wmx (wdF (alW xs) i) o)))) 3 (0,0))::(b1,.cells (Vu (z.set i ⟨d9,(JS (csW xs 0) (csW xs i)).length,c8⟩)) 41 (0,0))::[]) (fun _ _ _ _=>False) (fun o x E2 I2 e4=>E2=[(6,Zm l8),(8,Zm m6),(9,.int .i64 x.1)]/\e4=(d7,.cells (Zl (Vk ((csW xs 0).length+1) (Vw (cnt o)))) 3 (0,0))::(a7,.cells (Zl (Vk ((csW xs 0).length+1) (Vw (wmx (wdF (alW xs) i) o)))) 3 (0,0))::(b1,.cells (Vu (z.set i ⟨d9,(JS (csW xs 0) (csW xs i)).length,c8⟩)) 41 (0,0))::[]) U zml (zmN f8 kB (zFy b9 i) m9) U U U ?_ ?_ ?_ ?_
  ·rintro l9 o x I1 e3 H1 d5 b2 rfl;refine Qh<|zA<|Qe ?_;exact zfd _ ⟨zJH _,U,U⟩ kc
  ·rintro l9 o x E2 I2 e4 H2 d5 b3 ⟨rfl,rfl⟩;have Y:=Y.mono b3;have e8:=e8.mono b3;obtain ⟨x1,x2,x3,x4,x5⟩:=zvC d5;have q2:=jO (@zhG (alW xs i) x.1.toNat) (zlf b9 i);have q4:=zfg (f:=cnt o) (a:=x.1.toNat) (B:=128) kB;refine Ql<|zR ?_;refine zV (Qc U QA (fun hg=>by exact e8.any)) ?_;refine zM ?_;refine zV (QD U U Qt (fun hg=>kB)) ?_;refine zV (Qc U Qr (fun hg=>by exact Jw (YC kB))) ?_;refine zB ?_;refine zV (QD U U Qt (fun hg=>kB)) ?_;refine Zx U U ZO U U (by repeat (first | exact Upd.here | apply Upd.there | apply QN)) (zEO kN) ?_;refine Qe ?_;rw [Xc,JX,show Vw (cnt o) x.1.toNat+1=((cnt o x.1.toNat+1:Nat):Int) from U,zcg,<-Wx];refine Qa ?_;have p:=zJH I2;refine VR ?_;refine ZM I2 [(d7,.cells (Zl (Vk ((csW xs 0).length+1) (Vw (cnt (o++[x]))))) 3 (0,0))] mixed ?_;refine zT 0 U (Qc U QA (fun hg=>by exact Y.any)) p ?_;refine zT 1 U (Qd U) p ?_;refine zT 2 U (Qc U QA (fun hg=>by exact Y.any)) p ?_;refine zT 3 U (Qd U) p ?_;refine zT 4 U (QD U U Qt (fun hg=>kB)) p ?_;refine zT 6 U (Qc U QA (fun hg=>by exact e8.any)) p ?_;refine zT 7 U (Qd U) p ?_;refine zT 8 U (QD U U Qt (fun hg=>kB)) p ?_;refine zT 9 U (Qc U Qr (fun hg=>by exact Jw (YC kB))) p ?_;refine qd 5 U ?_;refine zV (Qc U Qr (fun hg=>by exact zJB (Jw (YC kB)))) ?_;refine Qe ?_;refine zD p ?_;refine zT 10 U (VK U U) p ?_;refine zT 11 U (QD U U Qt (fun hg=>kB)) p ?_;refine qd 12 U ?_;refine Zx U U ZO U U (by repeat (first | exact Upd.here | apply Upd.there | apply QN)) (zEO kN) ?_;refine Qe ?_;refine zD p ?_;refine QH kA ?_;refine QP ?_;rw [zr0,Xc,JX,zcg,ztQ rfl];refine Qg ?_;exact zcb ⟨zJH _,U⟩ .refl
  ·rintro bd I1 e3 b2 rfl;have d2:=d2.mono b2;have d0:=d0.trans b2;refine Qg<|Qg<|Qa<|Qh<|zM ?_;refine zB ?_;refine zA<|Qe ?_;exact zd (h:=⟨xs.length-(i+1),kB,i+1,_,U,U,d0,U,kB,kB,by rw [AL];exact o7,d2⟩)
  rintro c bd o I1 e3 b2 d5 hF;exact hF.elim
 have n0:xs.length<=i:=kd l6;obtain rfl:i=xs.length:=kB;refine Qy<|Qf<|Qf<|Qj<|Qa<|zR<|zM ?_;refine zQ Qt ?_;refine zB ?_;refine Q1 Y7 U U kB kC U U (fun e7=>?_);refine Qv Vi U U (fun f3=>?_);refine zS Ze ?_;refine Qe ?_;have e1:(((csW xs 0).length:Nat):Int)+1=(((csW xs 0).length+1:Nat):Int):=rfl;rw [e1,show (((csW xs 0).length+1:Nat):Int).toNat=(csW xs 0).length+1 from U,Q8,Zo,Xw,<-zs3 (w:=(wdW xs))];refine Zk (b:=f3) (by repeat (first | exact Zb.here | apply Zb.there)) (fun I8 f0 q1=>?_);have hW:=hW.mono f0;have hH:=hH.mono f0;have hT:=hT.mono f0;have Y:=Y.mono f0;have c3:=c3.mono f0;have b0:=b0.trans f0;have V:QO I8 [] f3 0 (.slice (some ⟨e7,0,none⟩) ((csW xs 0).length+1) ((csW xs 0).length+1)):=.imm q1 U;refine Qa<|zR<|zA<|zN<|Qk<|zR ?_;refine zV (Qc U QA (fun hg=>by exact Y.any)) ?_;refine zQ Qt ?_;refine zM<|zN<|Ql ?_;refine WZ [(0,_),(2,_),(4,_),(5,_),(6,_),(10,_),(99,_),(100,_)] kc (fun T L0 mz ms E I' P=>∃ (k:Nat),mz=((csW xs 0).length+1)-k/\E=(11,.int .i64 ((Y6 (wdW xs) k:Nat):Int))::(101,.int .i64 k)::T/\I8=I'/\(e7,.cells (Zl (Vk ((csW xs 0).length+1) (Vw (atK (wdW xs) k)))) 3 (0,0))::(a7,.cells (Zl (Vk ((csW xs 0).length+1) (Vw (wdW xs)))) 3 (0,0))::(b1,.cells (Vu z) 41 (0,0))::MB ms=P/\k<=((csW xs 0).length+1)) _ _ _ _ ⟨0,U,U,U,U,jd _⟩ kc (zJH _) U ?_;rintro mz ms E I' P ⟨k,rfl,rfl,rfl,rfl,hk⟩;refine zR<|zC<|zN<|Qk ?_;refine zI ?_ ?_<;>intro i1
 ·have e0:k<((csW xs 0).length+1):=kd i1;have z7:=zfg (f:=Y6 (wdW xs)) (a:=k) (B:=20000) (jO (zh6 (zgt (zlf b9) _) k) (jO (Av 129 (show k<=65 by omega)) kC));have z9:=zfg (f:=(wdW xs)) (a:=k) (B:=128) (zgt (zlf b9) _ _);have e9:Vw (Y6 (wdW xs)) k=((Y6 (wdW xs) k:Nat):Int):=rfl;refine Qm<|Qa<|Qk<|Ql<|zR<|zM ?_;refine zV (QD U U Qt (fun hg=>kB)) ?_;refine zV (Qc U Qr (fun hg=>by exact zJB (Jw (k:=k) (YC (show k<_ by omega))))) ?_;refine zA ?_;refine zA ?_;refine zN<|zR ?_;refine zV (Qc U QA (fun hg=>by exact V.any)) ?_;refine zM ?_;refine zM ?_;refine zV (QD U U Qt (fun hg=>kB)) ?_;refine Zx U U ZO U U (by repeat (first | exact Upd.here | apply Upd.there | apply QN)) (zEO kN) ?_;refine Qe ?_;rw [Y0,JX,zcg,zsm];refine Qa<|Qh<|zM ?_;refine zM ?_;refine zB ?_;refine zB ?_;refine zA<|Qe<|Qg<|Qa<|Qh ?_;refine zB ?_;refine zM<|Qe ?_;exact zd (h:=⟨((csW xs 0).length+1)-(k+1),kB,k+1,U,U,U,U,kB⟩)
 have e6:((csW xs 0).length+1)<=k:=kd i1;obtain rfl:k=(csW xs 0).length+1:=kB;have hsE:=jO (zh6 (w:=wdW xs) (zgt (zlf b9) _) ((csW xs 0).length+1)) (Av 129 (show (csW xs 0).length+1<=65 by omega));refine Qy<|Qf<|Qf<|Qj<|Qa<|Qk<|zR<|zM ?_;refine zB ?_;refine zA<|Qe ?_;rw [zHs];refine Qa<|zR<|zM ?_;refine zC<|zN ?_;refine zI ?_ ?_<;>intro i2
 ·have i0:loW xs>256:=kd i2;obtain ⟨t1,t2⟩:=zze d3 i0;refine zR<|zA ?_;refine zA<|zN<|Qq<|Qb ?_
  first
  | exact Wz (L:=_::_::_::[]) (fun a ha w hw=>zFS U U U a ha w) (fun w hw=>⟨_,I8,[],U,b0,hw.drop,by rw [t1];exact XH.empty t2⟩)
 have i0:¬loW xs>256:=kd i2;obtain ⟨t1,t2⟩:=zx6 d3 i0;refine JB (by rw [zyg]) ?_;refine zfU (L:=(e7,.cells (Zl (Vk ((csW xs 0).length+1) (Vw (Y6 (wdW xs))))) 3 (0,0))::(a7,.cells (Zl (Vk ((csW xs 0).length+1) (Vw (wdW xs)))) 3 (0,0))::(b1,.cells (Vu z) 41 (0,0))::[]) (R:=MB ms) (.cons .here (.cons .here (.cons .here .nil))) (fun i7 d1 f9=>?_);have hW:=hW.mono d1;have hH:=hH.mono d1;have hT:=hT.mono d1;have Y:=Y.mono d1;have c3:=c3.mono d1;have V:=V.mono d1;have b0:=b0.trans d1;have a6:Sl i7 1 QF (some ⟨e7,0,none⟩) ((csW xs 0).length+1) ((csW xs 0).length+1) (Vk ((csW xs 0).length+1) (Vw (Y6 (wdW xs)))):=Sl.lit _ Z1 QL (f9 _ _ kD);have d6:Sl i7 1 QF (some ⟨a7,0,none⟩) ((csW xs 0).length+1) ((csW xs 0).length+1) (Vk ((csW xs 0).length+1) (Vw (wdW xs))):=Sl.lit _ Z1 QL (f9 _ _ kD);have c5:Sl i7 1 Kv (some ⟨b1,0,none⟩) xs.length xs.length z:=Sl.lit _ o7 VH (f9 _ _ kD);refine JB (loc':=[]++MB ms) U ?_;refine Qm<|Qa<|Qk<|zR<|zM ?_;refine zQ Z9 ?_;refine zM<|zN<|Ql ?_;refine WZ [(4,_),(5,_),(6,_),(10,_),(11,_),(119,_),(120,_)] kc (fun T L0 mz ms E I' P=>∃ (i:Nat) (v2:Value) (os:List Hd) (L:Go.Kn.Loc),mz=xs.length-i/\E=(2,v2)::(121,.int .i64 i)::T/\HLe i7 I'/\L++MB ms=P/\i<=xs.length/\OwnS 23 1 v2 i (os.flatMap Kv) L/\WM I' os ((List.range i).map (zc0 xs))) _ _ _ _ ⟨0,_,[],[],U,U,zJH _,U,jd _,OwnS.nil,WM.nil⟩ kc (zJH _) U ?_;rintro mz ms E i8 P ⟨i,v2,os,L,rfl,rfl,hJ,rfl,hi,hO,b7⟩;have hW:=hW.mono hJ;have hH:=hH.mono hJ;have hT:=hT.mono hJ;have Y:=Y.mono hJ;have c3:=c3.mono hJ;have V:=V.mono hJ;have a6:=a6.mono hJ;have d6:=d6.mono hJ;have c5:=c5.mono hJ;have b0:=b0.trans hJ;have b8:=hJ;obtain ⟨r0,r1,rfl⟩:=zaV hO;refine zR<|zC<|zN<|Qk ?_;refine zI ?_ ?_<;>intro i3
 ·have d4:i<xs.length:=kd i3;obtain ⟨w,x,hx,hv,e1,e2,hR⟩:=hW.at d4;have W:x.rs.map Yu=csW xs i:=(zaP hv).symm;have p7:=UW (i:=i) b9;have p8:=hR.len;have q9:=b9 x (je hv);obtain ⟨hp,o8,z5,c2⟩:=c3 i d4;have q5:=(X3 (xs:=xs) (i:=i)).2;refine Qm<|Qa<|Qk<|Ql<|zR<|zM ?_;refine zV (zX Z9 hH) ?_;refine zV (Qo U XC (fun hg=>by exact zJI hH hx) U) ?_;refine Qv zwZ U U (fun n2=>?_);refine zA ?_;refine zh znm ?_;refine zN ?_;refine zuX [(2,_),(4,_),(5,_),(6,_),(10,_),(11,_),(14,_),(119,_),(120,_),(121,_)] kc (fun T L0 ms E I' P=>∃ (i9 j0 a4:Nat) (f2:Option Addr) (m7:Nat),E=(16,Zm i9)::(17,Zm j0)::T/\HLe i8 I'/\(a4,.cells (Zl (Vk (loW xs) (fun _=>0))) 3 (0,0))::(L++MB ms)=P/\QO I' [] i9 0 (.slice (some ⟨a4,0,none⟩) (loW xs) (loW xs))/\QO I' [] j0 0 (.slice f2 (csW xs i).length m7)/\Sl I' 1 QF f2 (csW xs i).length m7 (csW xs i)) ?_ ?_
  ·have j:=zJH i8;have p:=zJH i8;refine VR ?_;refine ZM i8 [(n2,.cells (zlz w).toArray 65 (0,0))] mixed ?_;refine zT 0 U (Qd U) p ?_;refine zT 2 U (Qo U XC (fun hg=>by exact Cells.g0) U) p ?_;refine zzu 1 3 4 5 U U U U kA ?_ ?_ ?_ ?_
   ·refine Q1 Y7 U U kB kC U U (fun N=>?_);refine Qe ?_;refine zD p ?_;refine WG 3 4 5 U U U kA ?_ ?_ ?_
    ·refine zpc [_] U JJ .nil (Vg hR kB _ _) ?_;rintro r6 u0 w2 j4 ⟨rfl,a0,a9,rfl,r⟩;have j:=j.trans j4;have p:=p.trans j4;rw [W] at r ⊢;refine Qe ?_;refine zD p ?_;refine Zv 4 5 U U kA ?_ ?_
     focus
      refine Qv Vi U U (fun s=>?_);refine Qe ?_;refine zD p ?_;refine qd 5 U ?_;refine Qv Vi U U (fun J=>?_)
     rotate_left
     refine Qv Vi U U (fun J=>?_);refine Qe ?_;refine zD p ?_;refine qd 4 U ?_;refine Qv Vi U U (fun s=>?_)
     all_goals
      refine Qe ?_;refine zD p ?_;refine qd 6 U ?_;refine zS Ze ?_;refine Qe ?_;refine zD p ?_;refine qd 7 U ?_;refine zS Ze ?_;refine Qe ?_;refine zD p ?_;refine QH kA ?_;refine QP ?_;rw [show ((loW xs:Nat):Int).toNat=loW xs from U,Q8,Zo];refine QW (b:=s) (by repeat (first | exact Zb.here | apply Zb.there)) (fun c0 Q a1=>?_);refine QW (b:=J) (by repeat (first | exact Zb.here | apply Zb.there)) (fun c1 O a2=>?_);exact zn (h:=⟨s,J,N,_,_,U,(j.trans Q).trans O,U,.imm (O _ _ a1) U,.imm a2 U,(r.mono Q).mono O⟩)
    ·refine Qv Vi U U (fun s=>?_);refine Qe ?_;refine zD p ?_;refine Zv 3 5 U U kA ?_ ?_
     focus
      refine zpc [_] U JJ .nil (Vg hR kB _ _) ?_;rintro r7 u3 w3 j5 ⟨rfl,a0,a9,rfl,r⟩;have j:=j.trans j5;have p:=p.trans j5;rw [W] at r ⊢;refine Qe ?_;refine zD p ?_;refine qd 5 U ?_;refine Qv Vi U U (fun J=>?_)
     rotate_left
     refine Qv Vi U U (fun J=>?_);refine Qe ?_;refine zD p ?_;refine qd 3 U ?_;refine zpc [_] U JJ .nil (Vg hR kB _ _) ?_;rintro r8 u4 w4 j6 ⟨rfl,a0,a9,rfl,r⟩;have j:=j.trans j6;have p:=p.trans j6;rw [W] at r ⊢
     all_goals
      refine Qe ?_;refine zD p ?_;refine qd 6 U ?_;refine zS Ze ?_;refine Qe ?_;refine zD p ?_;refine qd 7 U ?_;refine zS Ze ?_;refine Qe ?_;refine zD p ?_;refine QH kA ?_;refine QP ?_;rw [show ((loW xs:Nat):Int).toNat=loW xs from U,Q8,Zo];refine QW (b:=s) (by repeat (first | exact Zb.here | apply Zb.there)) (fun c0 Q a1=>?_);refine QW (b:=J) (by repeat (first | exact Zb.here | apply Zb.there)) (fun c1 O a2=>?_);exact zn (h:=⟨s,J,N,_,_,U,(j.trans Q).trans O,U,.imm (O _ _ a1) U,.imm a2 U,(r.mono Q).mono O⟩)
    refine Qv Vi U U (fun J=>?_);refine Qe ?_;refine zD p ?_;refine Zv 3 4 U U kA ?_ ?_
    focus
     refine zpc [_] U JJ .nil (Vg hR kB _ _) ?_;rintro r9 u6 w5 j7 ⟨rfl,a0,a9,rfl,r⟩;have j:=j.trans j7;have p:=p.trans j7;rw [W] at r ⊢;refine Qe ?_;refine zD p ?_;refine qd 4 U ?_;refine Qv Vi U U (fun s=>?_)
    rotate_left
    refine Qv Vi U U (fun s=>?_);refine Qe ?_;refine zD p ?_;refine qd 3 U ?_;refine zpc [_] U JJ .nil (Vg hR kB _ _) ?_;rintro s5 c0 w6 j8 ⟨rfl,a0,a9,rfl,r⟩;have j:=j.trans j8;have p:=p.trans j8;rw [W] at r ⊢
    all_goals
     refine Qe ?_;refine zD p ?_;refine qd 6 U ?_;refine zS Ze ?_;refine Qe ?_;refine zD p ?_;refine qd 7 U ?_;refine zS Ze ?_;refine Qe ?_;refine zD p ?_;refine QH kA ?_;refine QP ?_;rw [show ((loW xs:Nat):Int).toNat=loW xs from U,Q8,Zo];refine QW (b:=s) (by repeat (first | exact Zb.here | apply Zb.there)) (fun c0 Q a1=>?_);refine QW (b:=J) (by repeat (first | exact Zb.here | apply Zb.there)) (fun c1 O a2=>?_);exact zn (h:=⟨s,J,N,_,_,U,(j.trans Q).trans O,U,.imm (O _ _ a1) U,.imm a2 U,(r.mono Q).mono O⟩)
   ·refine zpc [_] U JJ .nil (Vg hR kB _ _) ?_;rintro s6 c1 w7 j9 ⟨rfl,a0,a9,rfl,r⟩;have j:=j.trans j9;have p:=p.trans j9;rw [W] at r ⊢;refine Qe ?_;refine zD p ?_;refine WG 1 4 5 U U U kA ?_ ?_ ?_
    ·refine Q1 Y7 U U kB kC U U (fun N=>?_);refine Qe ?_;refine zD p ?_;refine Zv 4 5 U U kA ?_ ?_
     focus
      refine Qv Vi U U (fun s=>?_);refine Qe ?_;refine zD p ?_;refine qd 5 U ?_;refine Qv Vi U U (fun J=>?_)
     rotate_left
     refine Qv Vi U U (fun J=>?_);refine Qe ?_;refine zD p ?_;refine qd 4 U ?_;refine Qv Vi U U (fun s=>?_)
     all_goals
      refine Qe ?_;refine zD p ?_;refine qd 6 U ?_;refine zS Ze ?_;refine Qe ?_;refine zD p ?_;refine qd 7 U ?_;refine zS Ze ?_;refine Qe ?_;refine zD p ?_;refine QH kA ?_;refine QP ?_;rw [show ((loW xs:Nat):Int).toNat=loW xs from U,Q8,Zo];refine QW (b:=s) (by repeat (first | exact Zb.here | apply Zb.there)) (fun c0 Q a1=>?_);refine QW (b:=J) (by repeat (first | exact Zb.here | apply Zb.there)) (fun c1 O a2=>?_);exact zn (h:=⟨s,J,N,_,_,U,(j.trans Q).trans O,U,.imm (O _ _ a1) U,.imm a2 U,(r.mono Q).mono O⟩)
    ·refine Qv Vi U U (fun s=>?_);refine Qe ?_;refine zD p ?_;refine Zv 1 5 U U kA ?_ ?_
     focus
      refine Q1 Y7 U U kB kC U U (fun N=>?_);refine Qe ?_;refine zD p ?_;refine qd 5 U ?_;refine Qv Vi U U (fun J=>?_)
     rotate_left
     refine Qv Vi U U (fun J=>?_);refine Qe ?_;refine zD p ?_;refine qd 1 U ?_;refine Q1 Y7 U U kB kC U U (fun N=>?_)
     all_goals
      refine Qe ?_;refine zD p ?_;refine qd 6 U ?_;refine zS Ze ?_;refine Qe ?_;refine zD p ?_;refine qd 7 U ?_;refine zS Ze ?_;refine Qe ?_;refine zD p ?_;refine QH kA ?_;refine QP ?_;rw [show ((loW xs:Nat):Int).toNat=loW xs from U,Q8,Zo];refine QW (b:=s) (by repeat (first | exact Zb.here | apply Zb.there)) (fun c0 Q a1=>?_);refine QW (b:=J) (by repeat (first | exact Zb.here | apply Zb.there)) (fun c1 O a2=>?_);exact zn (h:=⟨s,J,N,_,_,U,(j.trans Q).trans O,U,.imm (O _ _ a1) U,.imm a2 U,(r.mono Q).mono O⟩)
    refine Qv Vi U U (fun J=>?_);refine Qe ?_;refine zD p ?_;refine Zv 1 4 U U kA ?_ ?_
    focus
     refine Q1 Y7 U U kB kC U U (fun N=>?_);refine Qe ?_;refine zD p ?_;refine qd 4 U ?_;refine Qv Vi U U (fun s=>?_)
    rotate_left
    refine Qv Vi U U (fun s=>?_);refine Qe ?_;refine zD p ?_;refine qd 1 U ?_;refine Q1 Y7 U U kB kC U U (fun N=>?_)
    all_goals
     refine Qe ?_;refine zD p ?_;refine qd 6 U ?_;refine zS Ze ?_;refine Qe ?_;refine zD p ?_;refine qd 7 U ?_;refine zS Ze ?_;refine Qe ?_;refine zD p ?_;refine QH kA ?_;refine QP ?_;rw [show ((loW xs:Nat):Int).toNat=loW xs from U,Q8,Zo];refine QW (b:=s) (by repeat (first | exact Zb.here | apply Zb.there)) (fun c0 Q a1=>?_);refine QW (b:=J) (by repeat (first | exact Zb.here | apply Zb.there)) (fun c1 O a2=>?_);exact zn (h:=⟨s,J,N,_,_,U,(j.trans Q).trans O,U,.imm (O _ _ a1) U,.imm a2 U,(r.mono Q).mono O⟩)
   ·refine Qv Vi U U (fun s=>?_);refine Qe ?_;refine zD p ?_;refine WG 1 3 5 U U U kA ?_ ?_ ?_
    ·refine Q1 Y7 U U kB kC U U (fun N=>?_);refine Qe ?_;refine zD p ?_;refine Zv 3 5 U U kA ?_ ?_
     focus
      refine zpc [_] U JJ .nil (Vg hR kB _ _) ?_;rintro s7 u7 w8 k0 ⟨rfl,a0,a9,rfl,r⟩;have j:=j.trans k0;have p:=p.trans k0;rw [W] at r ⊢;refine Qe ?_;refine zD p ?_;refine qd 5 U ?_;refine Qv Vi U U (fun J=>?_)
     rotate_left
     refine Qv Vi U U (fun J=>?_);refine Qe ?_;refine zD p ?_;refine qd 3 U ?_;refine zpc [_] U JJ .nil (Vg hR kB _ _) ?_;rintro s8 u9 w9 k6 ⟨rfl,a0,a9,rfl,r⟩;have j:=j.trans k6;have p:=p.trans k6;rw [W] at r ⊢
     all_goals
      refine Qe ?_;refine zD p ?_;refine qd 6 U ?_;refine zS Ze ?_;refine Qe ?_;refine zD p ?_;refine qd 7 U ?_;refine zS Ze ?_;refine Qe ?_;refine zD p ?_;refine QH kA ?_;refine QP ?_;rw [show ((loW xs:Nat):Int).toNat=loW xs from U,Q8,Zo];refine QW (b:=s) (by repeat (first | exact Zb.here | apply Zb.there)) (fun c0 Q a1=>?_);refine QW (b:=J) (by repeat (first | exact Zb.here | apply Zb.there)) (fun c1 O a2=>?_);exact zn (h:=⟨s,J,N,_,_,U,(j.trans Q).trans O,U,.imm (O _ _ a1) U,.imm a2 U,(r.mono Q).mono O⟩)
    ·refine zpc [_] U JJ .nil (Vg hR kB _ _) ?_;rintro s9 v0 x6 k7 ⟨rfl,a0,a9,rfl,r⟩;have j:=j.trans k7;have p:=p.trans k7;rw [W] at r ⊢;refine Qe ?_;refine zD p ?_;refine Zv 1 5 U U kA ?_ ?_
     focus
      refine Q1 Y7 U U kB kC U U (fun N=>?_);refine Qe ?_;refine zD p ?_;refine qd 5 U ?_;refine Qv Vi U U (fun J=>?_)
     rotate_left
     refine Qv Vi U U (fun J=>?_);refine Qe ?_;refine zD p ?_;refine qd 1 U ?_;refine Q1 Y7 U U kB kC U U (fun N=>?_)
     all_goals
      refine Qe ?_;refine zD p ?_;refine qd 6 U ?_;refine zS Ze ?_;refine Qe ?_;refine zD p ?_;refine qd 7 U ?_;refine zS Ze ?_;refine Qe ?_;refine zD p ?_;refine QH kA ?_;refine QP ?_;rw [show ((loW xs:Nat):Int).toNat=loW xs from U,Q8,Zo];refine QW (b:=s) (by repeat (first | exact Zb.here | apply Zb.there)) (fun c0 Q a1=>?_);refine QW (b:=J) (by repeat (first | exact Zb.here | apply Zb.there)) (fun c1 O a2=>?_);exact zn (h:=⟨s,J,N,_,_,U,(j.trans Q).trans O,U,.imm (O _ _ a1) U,.imm a2 U,(r.mono Q).mono O⟩)
    refine Qv Vi U U (fun J=>?_);refine Qe ?_;refine zD p ?_;refine Zv 1 3 U U kA ?_ ?_
    focus
     refine Q1 Y7 U U kB kC U U (fun N=>?_);refine Qe ?_;refine zD p ?_;refine qd 3 U ?_;refine zpc [_] U JJ .nil (Vg hR kB _ _) ?_;rintro t0 v1 x7 k8 ⟨rfl,a0,a9,rfl,r⟩;have j:=j.trans k8;have p:=p.trans k8;rw [W] at r ⊢
    rotate_left
    refine zpc [_] U JJ .nil (Vg hR kB _ _) ?_;rintro t3 v3 x8 l0 ⟨rfl,a0,a9,rfl,r⟩;have j:=j.trans l0;have p:=p.trans l0;rw [W] at r ⊢;refine Qe ?_;refine zD p ?_;refine qd 1 U ?_;refine Q1 Y7 U U kB kC U U (fun N=>?_)
    all_goals
     refine Qe ?_;refine zD p ?_;refine qd 6 U ?_;refine zS Ze ?_;refine Qe ?_;refine zD p ?_;refine qd 7 U ?_;refine zS Ze ?_;refine Qe ?_;refine zD p ?_;refine QH kA ?_;refine QP ?_;rw [show ((loW xs:Nat):Int).toNat=loW xs from U,Q8,Zo];refine QW (b:=s) (by repeat (first | exact Zb.here | apply Zb.there)) (fun c0 Q a1=>?_);refine QW (b:=J) (by repeat (first | exact Zb.here | apply Zb.there)) (fun c1 O a2=>?_);exact zn (h:=⟨s,J,N,_,_,U,(j.trans Q).trans O,U,.imm (O _ _ a1) U,.imm a2 U,(r.mono Q).mono O⟩)
   refine Qv Vi U U (fun J=>?_);refine Qe ?_;refine zD p ?_;refine WG 1 3 4 U U U kA ?_ ?_ ?_
   ·refine Q1 Y7 U U kB kC U U (fun N=>?_);refine Qe ?_;refine zD p ?_;refine Zv 3 4 U U kA ?_ ?_
    focus
     refine zpc [_] U JJ .nil (Vg hR kB _ _) ?_;rintro t4 v4 x9 l1 ⟨rfl,a0,a9,rfl,r⟩;have j:=j.trans l1;have p:=p.trans l1;rw [W] at r ⊢;refine Qe ?_;refine zD p ?_;refine qd 4 U ?_;refine Qv Vi U U (fun s=>?_)
    rotate_left
    refine Qv Vi U U (fun s=>?_);refine Qe ?_;refine zD p ?_;refine qd 3 U ?_;refine zpc [_] U JJ .nil (Vg hR kB _ _) ?_;rintro t5 v5 y0 l2 ⟨rfl,a0,a9,rfl,r⟩;have j:=j.trans l2;have p:=p.trans l2;rw [W] at r ⊢
    all_goals
     refine Qe ?_;refine zD p ?_;refine qd 6 U ?_;refine zS Ze ?_;refine Qe ?_;refine zD p ?_;refine qd 7 U ?_;refine zS Ze ?_;refine Qe ?_;refine zD p ?_;refine QH kA ?_;refine QP ?_;rw [show ((loW xs:Nat):Int).toNat=loW xs from U,Q8,Zo];refine QW (b:=s) (by repeat (first | exact Zb.here | apply Zb.there)) (fun c0 Q a1=>?_);refine QW (b:=J) (by repeat (first | exact Zb.here | apply Zb.there)) (fun c1 O a2=>?_);exact zn (h:=⟨s,J,N,_,_,U,(j.trans Q).trans O,U,.imm (O _ _ a1) U,.imm a2 U,(r.mono Q).mono O⟩)
   ·refine zpc [_] U JJ .nil (Vg hR kB _ _) ?_;rintro t6 v6 y5 l3 ⟨rfl,a0,a9,rfl,r⟩;have j:=j.trans l3;have p:=p.trans l3;rw [W] at r ⊢;refine Qe ?_;refine zD p ?_;refine Zv 1 4 U U kA ?_ ?_
    focus
     refine Q1 Y7 U U kB kC U U (fun N=>?_);refine Qe ?_;refine zD p ?_;refine qd 4 U ?_;refine Qv Vi U U (fun s=>?_)
    rotate_left
    refine Qv Vi U U (fun s=>?_);refine Qe ?_;refine zD p ?_;refine qd 1 U ?_;refine Q1 Y7 U U kB kC U U (fun N=>?_)
    all_goals
     refine Qe ?_;refine zD p ?_;refine qd 6 U ?_;refine zS Ze ?_;refine Qe ?_;refine zD p ?_;refine qd 7 U ?_;refine zS Ze ?_;refine Qe ?_;refine zD p ?_;refine QH kA ?_;refine QP ?_;rw [show ((loW xs:Nat):Int).toNat=loW xs from U,Q8,Zo];refine QW (b:=s) (by repeat (first | exact Zb.here | apply Zb.there)) (fun c0 Q a1=>?_);refine QW (b:=J) (by repeat (first | exact Zb.here | apply Zb.there)) (fun c1 O a2=>?_);exact zn (h:=⟨s,J,N,_,_,U,(j.trans Q).trans O,U,.imm (O _ _ a1) U,.imm a2 U,(r.mono Q).mono O⟩)
   refine Qv Vi U U (fun s=>?_);refine Qe ?_;refine zD p ?_;refine Zv 1 3 U U kA ?_ ?_
   focus
    refine Q1 Y7 U U kB kC U U (fun N=>?_);refine Qe ?_;refine zD p ?_;refine qd 3 U ?_;refine zpc [_] U JJ .nil (Vg hR kB _ _) ?_;rintro t7 v7 y6 l4 ⟨rfl,a0,a9,rfl,r⟩;have j:=j.trans l4;have p:=p.trans l4;rw [W] at r ⊢
   rotate_left
   refine zpc [_] U JJ .nil (Vg hR kB _ _) ?_;rintro t8 v8 y7 l5 ⟨rfl,a0,a9,rfl,r⟩;have j:=j.trans l5;have p:=p.trans l5;rw [W] at r ⊢;refine Qe ?_;refine zD p ?_;refine qd 1 U ?_;refine Q1 Y7 U U kB kC U U (fun N=>?_)
   all_goals
    refine Qe ?_;refine zD p ?_;refine qd 6 U ?_;refine zS Ze ?_;refine Qe ?_;refine zD p ?_;refine qd 7 U ?_;refine zS Ze ?_;refine Qe ?_;refine zD p ?_;refine QH kA ?_;refine QP ?_;rw [show ((loW xs:Nat):Int).toNat=loW xs from U,Q8,Zo];refine QW (b:=s) (by repeat (first | exact Zb.here | apply Zb.there)) (fun c0 Q a1=>?_);refine QW (b:=J) (by repeat (first | exact Zb.here | apply Zb.there)) (fun c1 O a2=>?_);exact zn (h:=⟨s,J,N,_,_,U,(j.trans Q).trans O,U,.imm (O _ _ a1) U,.imm a2 U,(r.mono Q).mono O⟩)
  rintro ms E f1 P ⟨i9,j0,a4,f2,m7,rfl,b6,rfl,Z,a8,a5⟩;have hT:=hT.mono b6;have Y:=Y.mono b6;have V:=V.mono b6;have a6:=a6.mono b6;have d6:=d6.mono b6;have c5:=c5.mono b6;have b7:=b7.mono b6;have c2:=c2.mono b6;have b8:=b8.trans b6;refine zuX [(2,_),(4,_),(5,_),(6,_),(10,_),(11,_),(14,_),(16,_),(17,_),(119,_),(120,_),(121,_)] kc (fun T L0 ms E I' P=>E=T/\HLe f1 I'/\(a4,.cells (Zl (Vk (loW xs) ((if i=0 then txF (wdW xs) (csW xs 0) (csW xs 0).length else fun _=>0)))) 3 (0,0))::(L++MB ms)=P) ?_ ?_
  ·have f7:=zJH f1;refine zR<|zM ?_;refine zC<|zN ?_;refine zI ?_ ?_<;>intro i4
   ·have n1:i=0:=kd i4;refine zR<|zM ?_;refine zQ Qt ?_;refine zM<|zN<|Ql ?_;refine WZ [(2,_),(4,_),(5,_),(6,_),(10,_),(11,_),(14,_),(16,_),(17,_),(119,_),(120,_),(121,_),(132,_),(133,_)] kc (fun T L0 mz ms E I' P=>∃ (k:Nat),mz=(csW xs 0).length-k/\E=(134,.int .i64 k)::T/\f1=I'/\(a4,.cells (Zl (Vk (loW xs) (txF (wdW xs) (csW xs 0) k))) 3 (0,0))::(L++MB ms)=P/\k<=(csW xs 0).length) _ _ _ _ ⟨0,U,U,U,U,jd _⟩ kc (zJH _) U ?_;rintro mz ms E I' P ⟨k,rfl,rfl,rfl,rfl,hk⟩;refine zR<|zC<|zN<|Qk ?_;refine zI ?_ ?_<;>intro i5
    ·have e0:k<(csW xs 0).length:=kd i5;obtain ⟨tk,o0⟩:=hT.at e0;have q6:=zum e0;have o5:Vw (Y6 (wdW xs)) k=(((Y6 (wdW xs)) k:Nat):Int):=rfl;have o6:Vw (wdW xs) k=(((wdW xs) k:Nat):Int):=rfl;refine Qm<|Qa<|Qk<|Ql<|zR<|zM ?_;refine zV (zX Qt hT) ?_;refine zV (Qc U Qr (fun hg=>by exact zJA hT o0 U)) ?_;refine zA ?_;refine zA<|zN ?_;have p:=zJH f1;refine VR ?_;refine ZM f1 [] mixed ?_;refine zT 0 U (Qc U QA (fun hg=>by exact Z.any)) p ?_;refine zT 1 U (Qc U QA (fun hg=>by exact V.any)) p ?_;refine zT 2 U (Qd U) p ?_;refine zT 3 U (zX Qt a6) p ?_;refine zT 4 U (Qc U Qr (fun hg=>by exact zJA (k:=k) a6 (YC (show k<_ by omega)) U)) p ?_;refine zT 5 U (Qc U QA (fun hg=>by exact Y.any)) p ?_;refine zT 6 U (Qd U) p ?_;refine zT 7 U (zX Qt d6) p ?_;refine zT 8 U (Qc U Qr (fun hg=>by exact zJA (k:=k) d6 (YC (show k<_ by omega)) U)) p ?_;refine zT 9 U (Zf U U U (fun hg=>kB)) p ?_;refine zT 10 U (Qd U) p ?_;refine zT 11 U (QD U U Qt (fun hg=>kB)) p ?_;refine qd 12 U ?_;refine Zx U U ZO U U (by repeat (first | exact Upd.here | apply Upd.there | apply QN)) (by rw [show Vw (Y6 (wdW xs)) k+Vw (wdW xs) k=((Y6 (wdW xs) k+wdW xs k:Nat):Int) from U];exact zqU kN) ?_;refine Qe ?_;refine zD p ?_;refine QH kA ?_;refine QP ?_;rw [show Vw (Y6 (wdW xs)) k+Vw (wdW xs) k=((Y6 (wdW xs) k+wdW xs k:Nat):Int) from U,Y0,JX,<-QJ (d:=0) o0];refine Qg<|Qa<|Qh<|zB ?_;refine zM<|Qe ?_;exact zd (h:=⟨(csW xs 0).length-(k+1),kB,k+1,U,U,U,U,kB⟩)
    have e6:(csW xs 0).length<=k:=kd i5;obtain rfl:k=(csW xs 0).length:=kB;refine Qy<|Qf<|Qf<|Qj ?_;exact zeN U U U _ _ ⟨U,f7,by rw [jb n1]⟩ kc .refl
   have n1:¬i=0:=kd i4;refine Qm ?_;exact zeN U U U _ _ ⟨U,f7,by rw [ja n1]⟩ kc .refl
  rintro ms E l7 P ⟨rfl,a3,rfl⟩;have Y:=Y.mono a3;have V:=V.mono a3;have a6:=a6.mono a3;have d6:=d6.mono a3;have c5:=c5.mono a3;have b7:=b7.mono a3;have c2:=c2.mono a3;have Z:=Z.mono a3;have a8:=a8.mono a3;have a5:=a5.mono a3;have b8:=b8.trans a3;refine Qk<|zR<|zM ?_;refine zM ?_;refine zV (zX zew c5) ?_;refine zV (Qc U zji (fun hg=>by exact zJA c5 o8 U)) ?_;refine zQ JG ?_;refine zM<|zN<|Ql ?_;refine WZ [(2,_),(4,_),(5,_),(6,_),(10,_),(11,_),(14,_),(16,_),(17,_),(119,_),(120,_),(121,_),(155,_),(156,_)] kc (fun T L0 mz ms E I' P=>∃ (k:Nat),mz=(pfW xs i).length-k/\E=(157,.int .i64 k)::T/\l7=I'/\(a4,.cells (Zl (Vk (loW xs) (((pfW xs i).take k).foldl (prF (wdW xs) (csW xs i)) (if i=0 then txF (wdW xs) (csW xs 0) (csW xs 0).length else fun _=>0)))) 3 (0,0))::(L++MB ms)=P/\k<=(pfW xs i).length) _ _ _ _ ⟨0,U,U,U,U,jd _⟩ kc (zJH _) U ?_;rintro mz ms E I' P ⟨k,rfl,rfl,rfl,rfl,hk⟩;refine zR<|zC<|zN<|Qk ?_;refine zI ?_ ?_<;>intro i6
  ·have e0:k<(pfW xs i).length:=kd i6;obtain ⟨y,hy⟩:=c2.at (show k<_ by omega);obtain ⟨y1,y2,y3,y4⟩:=zEo hy;refine Qm<|Qa<|Qk<|Ql<|zR ?_;refine zV (zX JG c2) ?_;refine zV (Qo U zdc (fun hg=>by exact zJI c2 hy) U) ?_;refine Qv K4 U U (fun n3=>?_);refine zh zms ?_;refine zN<|zR ?_;refine zV (Zh U U Yx (fun hg=>by decide)) ?_;refine zL Qr ?_;refine zC ?_;refine zM ?_;refine Qw 3 U U U ?_;refine zK (Zh U U Yx (fun hg=>by decide)) ?_;refine zK (Qc U Qr (fun hg=>by exact QO.h0 U)) ?_;refine zK (Qx U U U) ?_;refine QC U U U U U ?_;refine zN ?_;refine zI ?_ ?_<;>intro e5
   ·have hy5:y.1>0/\y.2>0:=(by have h:=e5;simp at h;exact h);have q6:=zum (xs:=xs) (k:=(y.1-1).toNat) kB;have o5:Vw (Y6 (wdW xs)) (y.1-1).toNat=(((Y6 (wdW xs)) (y.1-1).toNat:Nat):Int):=rfl;have o6:Vw (wdW xs) (y.1-1).toNat=(((wdW xs) (y.1-1).toNat:Nat):Int):=rfl;have p:=zJH l7;refine VR ?_;refine ZM l7 [(n3,.cells (K6 y).toArray 79 (0,0))] mixed ?_;refine zT 0 U (Qc U QA (fun hg=>by exact Z.any)) p ?_;refine zT 1 U (Qc U QA (fun hg=>by exact V.any)) p ?_;refine zT 2 U (Zh U U Yx (fun hg=>by decide)) p ?_;refine zT 3 U (Qc U Qr (fun hg=>by exact QO.h0 U)) p ?_;refine zT 4 U (Zf U U U (fun hg=>kB)) p ?_;refine zT 5 U (zX Qt a6) p ?_;refine zT 6 U (Qc U Qr (fun hg=>by exact zJA (k:=(y.1-1).toNat) a6 (YC kB) U)) p ?_;refine zT 7 U (Qc U QA (fun hg=>by exact Y.any)) p ?_;refine zT 8 U (Zh U U Yx (fun hg=>by decide)) p ?_;refine zT 9 U (Qc U Qr (fun hg=>by exact QO.h0 U)) p ?_;refine zT 10 U (Zf U U U (fun hg=>kB)) p ?_;refine zT 11 U (zX Qt d6) p ?_;refine zT 12 U (Qc U Qr (fun hg=>by exact zJA (k:=(y.1-1).toNat) d6 (YC kB) U)) p ?_;refine zT 13 U (Zf U U U (fun hg=>kB)) p ?_;refine zT 14 U (Qc U QA (fun hg=>by exact a8.any)) p ?_;refine zT 15 U (Zh U U Yx (fun hg=>by decide)) p ?_;refine zT 16 U (Qc U Qr (fun hg=>by exact QO.h0 U)) p ?_;refine zT 17 U (Zf U U U (fun hg=>kB)) p ?_;refine zT 18 U (zX Qt a5) p ?_;refine zT 19 U (Qc U Qr (fun hg=>by exact zJA (k:=(y.2-1).toNat) a5 (QE (d:=0) U kB) U)) p ?_;refine zT 20 U (QD U U Qt (fun hg=>kB)) p ?_;refine qd 21 U ?_;refine Zx U U ZO U U (by repeat (first | exact Upd.here | apply Upd.there | apply QN)) (by rw [show Vw (Y6 (wdW xs)) (y.1-1).toNat+Vw (wdW xs) (y.1-1).toNat=((Y6 (wdW xs) (y.1-1).toNat+wdW xs (y.1-1).toNat:Nat):Int) from U];exact zqU kN) ?_;refine Qe ?_;refine zD p ?_;refine QH kA ?_;refine QP ?_;rw [show Vw (Y6 (wdW xs)) (y.1-1).toNat+Vw (wdW xs) (y.1-1).toNat=((Y6 (wdW xs) (y.1-1).toNat+wdW xs (y.1-1).toNat:Nat):Int) from U,Y0,JX];refine Qg<|Qa<|Qh<|zB ?_;refine zM<|Qe ?_;exact zd (h:=⟨(pfW xs i).length-(k+1),kB,k+1,U,U,U,by rw [zjj hy,zoL e5],kB⟩)
   refine Qm<|Qg<|Qa<|Qh<|zB ?_;refine zM<|Qe ?_;exact zd (h:=⟨(pfW xs i).length-(k+1),kB,k+1,U,U,U,by rw [zjj hy,zu9 e5],kB⟩)
  have e6:(pfW xs i).length<=k:=kd i6;rw [jr e6];refine Qy<|Qf<|Qf<|Qj<|Qa<|zR<|zM ?_;refine zQ Qt ?_;refine zB ?_;refine Q1 Y7 U U kB kC U U (fun c6=>?_);refine Qv Vi U U (fun f4=>?_);refine zS Ze ?_;refine Qe ?_;have e1:(((csW xs 0).length:Nat):Int)+1=(((csW xs 0).length+1:Nat):Int):=rfl;rw [e1,show (((csW xs 0).length+1:Nat):Int).toNat=(csW xs 0).length+1 from U,Q8,Zo,Xw];refine Zk (b:=f4) (by repeat (first | exact Zb.here | apply Zb.there)) (fun p2 b4 o2=>?_);have V:=V.mono b4;have a6:=a6.mono b4;have c5:=c5.mono b4;have b7:=b7.mono b4;have c2:=c2.mono b4;have Z:=Z.mono b4;have a8:=a8.mono b4;have a5:=a5.mono b4;have b8:=b8.trans b4;have d8:QO p2 [] f4 0 (.slice (some ⟨c6,0,none⟩) ((csW xs 0).length+1) ((csW xs 0).length+1)):=.imm o2 U;refine Qa<|Qk<|zR<|zM ?_;refine zM ?_;refine zV (zX zew c5) ?_;refine zV (Qc U zji (fun hg=>by exact zJA c5 o8 U)) ?_;refine zpc [_] U zuj .nil (zma _ _ _ _) ?_;rintro t9 w1 y8 b5 ⟨rfl,D,rfl,m9⟩;have V:=V.mono b5;have a6:=a6.mono b5;have b7:=b7.mono b5;have c2:=c2.mono b5;have Z:=Z.mono b5;have a8:=a8.mono b5;have a5:=a5.mono b5;have d8:=d8.mono b5;have b8:=b8.trans b5;refine zN<|Ql ?_;refine XT (K:=[]) (L:=(c6,.cells (Zl (Vk ((csW xs 0).length+1) (Vw (cnt [])))) 3 (0,0))::(a4,.cells (Zl (Vk (loW xs) ((alP (wdW xs) (csW xs i) ((pfW xs i).foldl (prF (wdW xs) (csW xs i)) (if i=0 then txF (wdW xs) (csW xs 0) (csW xs 0).length else fun _=>0)) []).1))) 3 (0,0))::L) (en1:=zHf) (en2:=zIv) (xs:=alW xs i) (fun o I' P=>P=(c6,.cells (Zl (Vk ((csW xs 0).length+1) (Vw (cnt o)))) 3 (0,0))::(a4,.cells (Zl (Vk (loW xs) ((alP (wdW xs) (csW xs i) ((pfW xs i).foldl (prF (wdW xs) (csW xs i)) (if i=0 then txF (wdW xs) (csW xs 0) (csW xs 0).length else fun _=>0)) o).1))) 3 (0,0))::L) (fun _ _ _ _=>False) (fun o x E2 I2 e4=>E2=[(10,Zm f3),(16,Zm i9),(17,Zm j0),(22,Zm f4),(23,.int .i64 x.1),(24,.int .i64 x.2)]/\e4=(c6,.cells (Zl (Vk ((csW xs 0).length+1) (Vw (cnt o)))) 3 (0,0))::(a4,.cells (Zl (Vk (loW xs) ((alP (wdW xs) (csW xs i) ((pfW xs i).foldl (prF (wdW xs) (csW xs i)) (if i=0 then txF (wdW xs) (csW xs 0) (csW xs 0).length else fun _=>0)) o).1))) 3 (0,0))::L) U zml (zmN c2 kB (zFy b9 i) m9) U U U ?_ ?_ ?_ ?_
  ·rintro l9 o x I1 e3 H1 d5 b2 rfl;refine zR<|zA<|zN<|Qh ?_;refine zA<|Qe ?_;exact zfd _ ⟨zJH _,U,U⟩ kc
  ·rintro l9 o x E2 I2 e4 H2 d5 b3 ⟨rfl,rfl⟩;have V:=V.mono b3;have a6:=a6.mono b3;have Z:=Z.mono b3;have a8:=a8.mono b3;have a5:=a5.mono b3;have d8:=d8.mono b3;obtain ⟨x1,x2,x3,x4,x5⟩:=zvC d5;have q2:=jO (@zhG (alW xs i) x.1.toNat) (zlf b9 i);have q4:=zfg (f:=cnt o) (a:=x.1.toNat) (B:=128) kB;have hp2:=zyx x2 d4 x5;have o5:Vw (Y6 (wdW xs)) x.1.toNat=(((Y6 (wdW xs)) x.1.toNat:Nat):Int):=rfl;have o6:Vw (cnt o) x.1.toNat=(((cnt o) x.1.toNat:Nat):Int):=rfl;refine Ql<|Qk ?_;have p:=zJH I2;refine VR ?_;refine ZM I2 [(c6,.cells (Zl (Vk ((csW xs 0).length+1) (Vw (cnt o)))) 3 (0,0))] mixed ?_;refine zT 0 U (Qc U QA (fun hg=>by exact Z.any)) p ?_;refine zT 1 U (Qc U QA (fun hg=>by exact V.any)) p ?_;refine zT 2 U (Qd U) p ?_;refine zT 3 U (zX Qt a6) p ?_;refine zT 4 U (Qc U Qr (fun hg=>by exact zJA (k:=x.1.toNat) a6 (YC kB) U)) p ?_;refine zT 5 U (Qc U QA (fun hg=>by exact d8.any)) p ?_;refine zT 6 U (Qd U) p ?_;refine zT 7 U (QD U U Qt (fun hg=>kB)) p ?_;refine zT 8 U (Qc U Qr (fun hg=>by exact Jw (YC kB))) p ?_;refine zT 9 U (Zf U U U (fun hg=>kB)) p ?_;refine zT 10 U (Qc U QA (fun hg=>by exact a8.any)) p ?_;refine zT 11 U (Qd U) p ?_;refine zT 12 U (zX Qt a5) p ?_;refine zT 13 U (Qc U Qr (fun hg=>by exact zJA (k:=x.2.toNat) a5 (QE (d:=0) U kB) U)) p ?_;refine zT 14 U (QD U U Qt (fun hg=>kB)) p ?_;refine qd 15 U ?_;refine Zx U U ZO U U (by repeat (first | exact Upd.here | apply Upd.there | apply QN)) (by rw [show Vw (Y6 (wdW xs)) x.1.toNat+Vw (cnt o) x.1.toNat=((Y6 (wdW xs) x.1.toNat+cnt o x.1.toNat:Nat):Int) from U];exact zqU kN) ?_;refine Qe ?_;refine zD p ?_;refine QH kA ?_;refine QP ?_;rw [show Vw (Y6 (wdW xs)) x.1.toNat+Vw (cnt o) x.1.toNat=((Y6 (wdW xs) x.1.toNat+cnt o x.1.toNat:Nat):Int) from U,Y0,JX,<-zdP];refine Qa<|Qh ?_;refine zV (Qc U QA (fun hg=>by exact d8.any)) ?_;refine zM ?_;refine zV (QD U U Qt (fun hg=>kB)) ?_;refine zV (Qc U Qr (fun hg=>by exact Jw (YC kB))) ?_;refine zB ?_;refine zV (QD U U Qt (fun hg=>kB)) ?_;refine Zx U U ZO U U (by repeat (first | exact Upd.here | apply Upd.there | apply QN)) (zEO kN) ?_;refine Qe ?_;rw [Xc,JX,show Vw (cnt o) x.1.toNat+1=((cnt o x.1.toNat+1:Nat):Int) from U,zcg,<-Wx];refine Qg ?_;exact zcb ⟨zJH _,U⟩ .refl
  ·rintro bd I1 e3 b2 rfl;have b7:=b7.mono b2;have Z:=Z.mono b2;have b8:=b8.trans b2;refine Qg<|Qa ?_;refine Zk (b:=a4) (by repeat (first | exact Zb.here | apply Zb.there)) (fun p3 f5 o3=>?_);have b7:=b7.mono f5;have Z:=Z.mono f5;have b8:=b8.trans f5;have n8:Sl p3 1 QF (some ⟨a4,0,none⟩) (loW xs) (loW xs) (zc0 xs i):=Sl.lit (zc0 xs i) Z1 QL o3;refine Qh<|zM ?_;refine zV (Qc U QA (fun hg=>by exact Z.any)) ?_;refine zpb [(0,_)] [Kv ⟨some ⟨a4,0,none⟩,loW xs,loW xs⟩] UK (fun p4=>?_);refine zpa (_) ([(⟨some ⟨a4,0,none⟩,loW xs,loW xs⟩:Hd)].flatMap Kv) (L) U U UK hO ⟨U,fun _=>U,by repeat (first | exact zJF | apply zJE | apply zJG)⟩ (zlN _) ?_;intro v9 L9 n5 _;rw [<-jh] at n5;refine zA<|Qe<|Qg<|Qa<|Qh ?_;refine zB ?_;refine zM<|Qe ?_;exact zd (h:=⟨xs.length-(i+1),kB,i+1,_,_,_,U,U,b8,U,kB,n5,by rw [KE];exact b7.snoc (hd:=⟨some ⟨a4,0,none⟩,loW xs,loW xs⟩) n8⟩)
  rintro c bd o I1 e3 b2 d5 hF;exact hF.elim
 have n0:xs.length<=i:=kd i3;obtain rfl:i=xs.length:=kB;refine Qy<|Qf<|Qf<|Qj<|Qa<|zR<|zM ?_;refine zA ?_;refine zA<|zN<|Qq ?_
 first
 | exact Wz (L:=L) (fun a ha w hw=>zFS U U U a ha w) (fun w hw=>by obtain ⟨I9,z1,c9,n4,p5,e9,p6⟩:=OwnS.freeze (R:=[]) hO VH kC (by rw [jw];exact hw);cases e9;exact ⟨_,I9,[],U,b0.trans n4,p5,U,r0,r1,by rw [t1,t2,ju,OG],by rw [t2,ju,OG];exact ⟨os,p6,b7.mono n4⟩⟩)
end
end Go.Proofs.YtodakphagkommaaGreatDoor
