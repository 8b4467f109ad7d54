/- The walks of the register of rights, fourteenth part: each function comes to its Lean function. -/
import Derived.Test.YtmflfccincbnaaaWalkM
import Derived.Test.YtmflfccincbnaaaPlain
namespace Go.Proofs.Ytmflfccincbnaaa
open Go Go.Kn Go.Proofs
def swan : ByteArray := ⟨#[115, 119, 97, 110]⟩
def kyoto : ByteArray := ⟨#[107, 121, 111, 116, 111]⟩
def s1 : Rt := ⟨1, 1, 7, 0, 0, 0, swan, kyoto, 10, 20, 5⟩
def s2 : Rt := ⟨2, 2, 7, 3, 12, 0, ⟨#[]⟩, ⟨#[]⟩, 0, 100, 5⟩
def s3 : Rt := ⟨4, 3, 7, 3, 0, 0, ⟨#[]⟩, ⟨#[]⟩, 0, 50, 6⟩
def s4 : Rt := ⟨5, 4, 0, 0, 0, 5, ⟨#[]⟩, ⟨#[]⟩, 0, 0, 9⟩
def saneX : List Rt := [s1, s2, s3, s4]
section
variable {I : HMap} {av bv : Option Addr} {c c2 : Nat}
theorem s_may1 (hS : Sl I 11 encR av 4 c saneX) : RetV Try.prog 17 [.slice av 4 c, .int .i64 7, .string swan, .string kyoto, .int .i64 20, .int .i64 5] I (.tuple #[.bool true, .int .i64 0]) := by
  have h := w_may hS (by decide) 7 swan kyoto 20 5
  rwa [show mayF (askedF (rCheck saneX) 20 5) 7 swan kyoto (standF saneX 20 5) = true from by kernel_rfl, show askedF (rCheck saneX) 20 5 = 0 from by kernel_rfl] at h
theorem s_may2 (hS : Sl I 11 encR av 4 c saneX) : RetV Try.prog 17 [.slice av 4 c, .int .i64 7, .string swan, .string kyoto, .int .i64 21, .int .i64 5] I (.tuple #[.bool false, .int .i64 0]) := by
  have h := w_may hS (by decide) 7 swan kyoto 21 5
  rwa [show mayF (askedF (rCheck saneX) 21 5) 7 swan kyoto (standF saneX 21 5) = false from by kernel_rfl, show askedF (rCheck saneX) 21 5 = 0 from by kernel_rfl] at h
theorem holdF_one {s x : Int} {m : List ((Int × Int) × Bool)} (h : pickL s m = [x]) : holdF s m = [x] := by
  unfold holdF sortI; rw [h, List.mergeSort_singleton]; rfl
theorem holdF_nil {s : Int} {m : List ((Int × Int) × Bool)} (h : pickL s m = []) : holdF s m = [] := by
  unfold holdF sortI; rw [h, List.mergeSort_nil]; rfl
theorem s_hold1 (hS : Sl I 11 encR av 4 c saneX) : RetM Try.prog 19 [.slice av 4 c, .int .i64 7, .int .i64 11, .int .i64 0, .int .i64 5] I [] (SlE 1 encI [3] 0) := by
  have h := w_Holders hS (by decide) 7 11 0 5
  rwa [show hErr (askedF (rCheck saneX) 0 5) 11 = 0 from by kernel_rfl, show holdF 11 (partsM 2 7 (standF saneX 0 5)) = [3] from holdF_one (by kernel_rfl)] at h
theorem s_hold2 (hS : Sl I 11 encR av 4 c saneX) : RetM Try.prog 19 [.slice av 4 c, .int .i64 7, .int .i64 12, .int .i64 0, .int .i64 5] I [] (SlE 1 encI [] 0) := by
  have h := w_Holders hS (by decide) 7 12 0 5
  rwa [show hErr (askedF (rCheck saneX) 0 5) 12 = 0 from by kernel_rfl, show holdF 12 (partsM 2 7 (standF saneX 0 5)) = [] from holdF_nil (by kernel_rfl)] at h
theorem s_hold3 (I : HMap) : RetM Try.prog 19 [.slice none 0 0, .int .i64 1, .int .i64 (-1), .int .i64 0, .int .i64 0] I [] (SlE 1 encI [] 1) := by
  have h := w_Holders (I := I) (av := none) (c := 0) (xs := []) .nil (by decide) 1 (-1) 0 0
  rwa [show hErr (askedF (rCheck []) 0 0) (-1) = 1 from by kernel_rfl] at h
theorem s_stand (hS : Sl I 11 encR av 4 c saneX) : RetM Try.prog 12 [.slice av 4 c, .int .i64 15, .int .i64 100] I [] (SlE 11 encR [s1, s2] 0) := by
  have h := w_standing_all hS (by decide) 15 100
  rwa [show askedF (rCheck saneX) 15 100 = 0 from by kernel_rfl, show resF 0 (standF saneX 15 100) = [s1, s2] from by kernel_rfl] at h
theorem s_all1 (hS : Sl I 11 encR av 4 c saneX) (hT : Sl I 1 encI bv 2 c2 [11, 12]) : RetM Try.prog 21 [.slice av 4 c, .int .i64 7, .slice bv 2 c2, .int .i64 30, .int .i64 8] I [] (AlE 0 []) := by
  have h := w_Allowed hS (by decide) hT (by decide) 7 30 8
  have e1 : partsM 2 7 (standF saneX 30 8) = [((3, 12), true)] := by kernel_rfl
  have e2 : holdF 11 [((3, 12), true)] = [3] := holdF_one (by kernel_rfl)
  have e3 : holdF 12 [((3, 12), true)] = [] := holdF_nil (by kernel_rfl)
  rwa [show aErr (askedF (rCheck saneX) 30 8) [11, 12] = 0 from by kernel_rfl, e1,
    show missA (fun s => holdF s [((3, 12), true)]) (missP (partsM 3 7 (standF saneX 30 8))) [11, 12] = [] from by
      unfold missA
      simp only [List.flatMap_cons, List.flatMap_nil, e2, e3]
      kernel_rfl] at h
theorem s_all2 (hS : Sl I 11 encR av 4 c saneX) (hT : Sl I 1 encI bv 2 c2 [11, 12]) : RetM Try.prog 21 [.slice av 4 c, .int .i64 7, .slice bv 2 c2, .int .i64 30, .int .i64 9] I [] (AlE 0 [(11, 3)]) := by
  have h := w_Allowed hS (by decide) hT (by decide) 7 30 9
  have e1 : partsM 2 7 (standF saneX 30 9) = [((3, 12), true)] := by kernel_rfl
  have e2 : holdF 11 [((3, 12), true)] = [3] := holdF_one (by kernel_rfl)
  have e3 : holdF 12 [((3, 12), true)] = [] := holdF_nil (by kernel_rfl)
  rwa [show aErr (askedF (rCheck saneX) 30 9) [11, 12] = 0 from by kernel_rfl, e1,
    show missA (fun s => holdF s [((3, 12), true)]) (missP (partsM 3 7 (standF saneX 30 9))) [11, 12] = [(11, 3)] from by
      unfold missA
      simp only [List.flatMap_cons, List.flatMap_nil, e2, e3]
      kernel_rfl] at h
theorem s_all3 (I : HMap) : RetM Try.prog 21 [.slice none 0 0, .int .i64 1, .slice none 0 0, .int .i64 0, .int .i64 0] I [] (AlE 0 []) := by
  have h := w_Allowed (I := I) (av := none) (c := 0) (xs := []) .nil (by decide) (bv := none) (c2 := 0) (ss := []) .nil (by decide) 1 0 0
  rwa [show aErr (askedF (rCheck []) 0 0) [] = 0 from by kernel_rfl, show missA (fun s => holdF s (partsM 2 1 (standF [] 0 0))) (missP (partsM 3 1 (standF [] 0 0))) [] = [] from rfl] at h
theorem s_chk {xs : List Rt} {n : Nat} {e : Int} (hS : Sl I 11 encR av n c xs) (hn : n ≤ 100000) (he : rCheck xs = e) : RetV Try.prog 14 [.slice av n c] I (.int .i64 e) := he ▸ w_check hS hn
end
end Go.Proofs.Ytmflfccincbnaaa
