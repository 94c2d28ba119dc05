/- Part of the proofs of FsHoles: the texts FsP, HolesP. -/
import Derived.Test.YtpoglnpjadmbpaaGreatDoorMB3
import Derived.Test.YtpoglnpjadmbpaaGreatDoorMB6
set_option maxHeartbeats 16000000
namespace Go.Proofs.YtpoglnpjadmbpaaGreatDoor
section
variable {α : Type}
end
theorem qza (s : Fs) (x : Tx) : (qiq s x).todo.length ≤ s.todo.length + (qbi x s).length := qvf _ _
end Go.Proofs.YtpoglnpjadmbpaaGreatDoor
namespace Go.Proofs.YtpoglnpjadmbpaaGreatDoor
open Go.RowKit
def hs1 : Fs := ybnk (fs0 80) 420 7 0 qlj fD1 fy1
def hN (sz : Nat) : Pn := { newN 420 7 0 with P := List.replicate (blkN (sz : Int)) 0, s := (sz : Int) }
def hN2 (sz p : Nat) : Pn := { newN 420 7 0 with P := (List.replicate (blkN ((max sz (p + 1) : Nat) : Int)) 0).set (p / 64) 54, s := ((max sz (p + 1) : Nat) : Int) }
set_option maxRecDepth 100000 in
theorem qux : ybkn (fs0 80) nmA 420 7 0 qlj [] fD1 fy1 37 where
 hX := rfl
 hk := rfl
 hl := by decide
 hP := fun p hp => by cases hp
 hPl := by decide
 hs := by decide
 hnm := by kernel_rfl
 hD := by kernel_rfl
 hDB := fun x hx => by cases hx
 hok := by kernel_rfl
 hfd := by kernel_rfl
 hz := ⟨zN, by kernel_rfl, rfl⟩
 hput := by kernel_rfl
 hD' := by kernel_rfl
 hD5 := Nat.le_of_ble_eq_true (by kernel_rfl)
 hg := Nat.le_of_ble_eq_true (by kernel_rfl)
 hn := qky
 hy := by kernel_rfl
 hrows := rfl
 hp0 := by kernel_rfl
 hp1 := by decide
 hp2 := by decide
 hny := qky.use 53
 hr0 := by kernel_rfl
 hr1 := by kernel_rfl
 hl0 := by kernel_rfl
 hl1 := by kernel_rfl
 hr := by kernel_rfl
 hlen := Nat.le_of_ble_eq_true (by kernel_rfl)
theorem qnd : hs1.nodes = fX0 :: newN 420 7 0 :: List.replicate 30 zN := by kernel_rfl
theorem ybdo : hs1.todo.length = 3 := by kernel_rfl
theorem qzy : qbd hs1.fo 0 = true := by kernel_rfl
theorem ybmv : qcj hs1.fo := qsh (by kernel_rfl) (by kernel_rfl) (by kernel_rfl)
theorem qzx : qbn hs1.fo = 0 := by kernel_rfl
theorem ybsv : qtx hs1.fo 80 = some 54 := by kernel_rfl
theorem ybvy : hs1.fo.nd 0 0 = 37 := by kernel_rfl
structure qpo (s : Fs) (sz : Nat) : Prop where
 k : s.k = 80
 rows : s.rows = []
 fo : s.fo = hs1.fo
 nodes : s.nodes = fX0 :: hN sz :: List.replicate 30 zN
 len : s.todo.length ≤ 12
theorem ybxo : hN 0 = newN 420 7 0 := by kernel_rfl
theorem hole_0 : qpo hs1 0 := ⟨rfl, rfl, rfl, by rw [ybxo]; exact qnd, by rw [ybdo]; omega⟩
theorem ybeh (n : Nat) : qbm (List.replicate n 0) = if 8 < n then 2 else 0 := by
 unfold qbm
 rw [List.length_replicate]
 by_cases h : 8 < n
 ·rw [if_pos h, if_pos h]
 ·rw [if_neg h, if_neg h, if_neg]
  simp only [List.any_eq_true, not_exists, not_and]
  intro x hx
  rw [List.eq_of_mem_replicate hx]; decide
theorem quw (P : List Int) (s : Nat) (hs : s ≤ 512) (hP : qbm P = 0) (hl : P.length = blkN (s : Int)) : qfv { newN 420 7 0 with P := P, s := (s : Int) } = 0 := by
 show qal 1 420 7 0 (s : Int) 1 0 P = 0
 unfold qal
 rw [if_neg (by decide), if_neg (by decide), if_neg (by omega), if_neg (by decide), if_neg (by rw [hP]; decide), if_neg (by rw [hl, qqw]; simp)]
theorem ybfu (sz : Nat) (h : sz ≤ 512) : qfv (hN sz) = 0 := quw _ sz h (by
 rw [ybeh, if_neg]; have := qcq (sz := (sz : Int)) (by omega); omega) (by simp)
theorem ybbj : ∀ n, n ≤ 8 → ∀ k, k < n → qbm ((List.replicate n (0 : Int)).set k 54) = 0 ∧ qmd ((List.replicate n (0 : Int)).set k 54) = 1 := by decide
theorem ybvq {p n : Nat} (h : p < n) : p / 64 < blkN (n : Int) := by unfold blkN qbq; split <;> omega
theorem qzv (sz p : Nat) (h : sz ≤ 512) (hp : p < 512) : qfv (hN2 sz p) = 0 := quw _ _ (by omega) ((ybbj _ (qcq (by omega)) _ (ybvq (by omega))).1) (by simp)
theorem ybsq (sz : Nat) (_h : sz ≤ 512) (_h0 : sz ≠ 0) : qpo (qiq hs1 (qde (qjp hs1 (newN 420 7 0) (hN sz) (sz : Int)) fX0 (hN sz))) sz := by
 have hg : srtI (qed (newN 420 7 0).P (blkN (sz : Int))) = [] := by
  have : qed (newN 420 7 0).P (blkN (sz : Int)) = [] := by unfold qed newN; simp [nzF]
  rw [this]; unfold srtI; simp
 refine ⟨rfl, rfl, ?_, ?_, ?_⟩
 ·show hasF hs1.fo (gonS (hs1.fo.hs 0) (srtI _)) = _
  rw [hg]
  exact qnb _
 ·show hs1.nodes.set 1 _ = _
  rw [qnd]; rfl
 ·have h1 := qza hs1 (qde (qjp hs1 (newN 420 7 0) (hN sz) (sz : Int)) fX0 (hN sz))
  have h2 : (qbi (qde (qjp hs1 (newN 420 7 0) (hN sz) (sz : Int)) fX0 (hN sz)) hs1).length ≤ 6 := by
   unfold qbi
   refine Nat.le_trans (yblm _ _ _) ?_
   have h3 := qrh hs1 (qbv (qde (qjp hs1 (newN 420 7 0) (hN sz) (sz : Int)) fX0 (hN sz)).fo) (qde (qjp hs1 (newN 420 7 0) (hN sz) (sz : Int)) fX0 (hN sz)).put 3
   have h4 : (qde (qjp hs1 (newN 420 7 0) (hN sz) (sz : Int)) fX0 (hN sz)).put.length ≤ 2 := by
    refine Nat.le_trans (qwy _ _) (Nat.le_trans (qeq _ _ _) ?_)
    show (cutY hs1 (newN 420 7 0) (sz : Int)).put.length + 1 ≤ 2
    have : (cutY hs1 (newN 420 7 0) (sz : Int)).put.length ≤ 1 := by unfold cutY; dsimp only; split <;> simp
    omega
   omega
  rw [ybdo] at h1
  omega
theorem qtz (sz : Nat) : qbn (qde (qjp hs1 (newN 420 7 0) (hN sz) (sz : Int)) fX0 (hN sz)).fo = 0 := by
 show qbn (hasF hs1.fo _) = 0
 rw [qlc _ _ qzy]; exact qzx
theorem ybst (sz : Nat) : hN sz = { newN 420 7 0 with P := resP (newN 420 7 0).P (blkN (sz : Int)), s := (sz : Int) } := by
 unfold hN resP newN
 simp
def ybfw (s : Fs) (sz p : Nat) : Fw := ⟨useF hs1.fo 54, [(54, qev (qck (tx0 s) s (List.replicate (blkN ((max sz (p + 1) : Nat) : Int)) 0) (p / 64)) [120] p (p / 64) 64)], (List.replicate (blkN ((max sz (p + 1) : Nat) : Int)) 0).set (p / 64) 54⟩
theorem ybsr (sz p : Nat) : List.replicate (blkN (sz : Int)) (0 : Int) ++ List.replicate ((p + 1 + 63) / 64 - (List.replicate (blkN (sz : Int)) (0 : Int)).length) 0 = List.replicate (blkN ((max sz (p + 1) : Nat) : Int)) 0 := by
 rw [List.length_replicate, List.replicate_append_replicate]
 congr 1
 unfold blkN qbq
 split <;> split <;> omega
theorem ybim {s : Fs} {sz : Nat} (hs : qpo s sz) (p : Nat) : fwrE s (tx0 s) [120] p (p / 64) ⟨s.fo, [], (hN sz).P ++ List.replicate ((p + 1 + 63) / 64 - (hN sz).P.length) 0⟩ ((p + 1 - 1) / 64 + 1 - p / 64) = some (ybfw s sz p) := by
 rw [show (hN sz).P = List.replicate (blkN (sz : Int)) 0 from rfl, ybsr, show (p + 1 - 1) / 64 + 1 - p / 64 = 1 by omega]
 have hz : (List.replicate (blkN ((max sz (p + 1) : Nat) : Int)) (0 : Int)).getD (p / 64) 0 = 0 := by
  rw [List.getD_eq_getElem?_getD, List.getElem?_replicate]; split <;> rfl
 have h1 : ownE s.fo s.k 0 = some (54, useF hs1.fo 54) := by
  unfold ownE
  rw [if_pos rfl, hs.k, hs.fo, ybsv]; rfl
 simp only [fwrE, Option.bind_some, Nat.add_zero]
 rw [hz, h1]
 rfl
theorem qpv {s : Fs} {sz : Nat} (_hs : qpo s sz) (p : Nat) : qbn (qde (qeu s (hN2 sz p) (ybfw s sz p)) fX0 (hN2 sz p)).fo = 0 := by
 show qbn (hasF (hasF hs1.fo _) _) = 0
 rw [qep, qlc _ _ qzy]; exact qzx
theorem ybhg (X : Pn) : qhb (fX0 :: X :: List.replicate 30 zN) 7 32 = useP X 7 := by
 have h : ∀ j, j < 30 → useP ((fX0 :: X :: List.replicate 30 zN).getD (j + 2) zN) 7 = 0 := fun j hj => by
  rw [List.getD_cons_succ, List.getD_cons_succ, List.getD_eq_getElem?_getD, List.getElem?_replicate, if_pos hj]; rfl
 have h2 : ∀ j, j ≤ 30 → qhb (fX0 :: X :: List.replicate 30 zN) 7 (j + 2) = useP X 7 := by
  intro j
  induction j with
  | zero =>
   intro _
   show 0 + useP fX0 7 + useP X 7 = _
   rw [show useP fX0 7 = 0 from rfl]; omega
  | succ j ih =>
   intro hj
   show qhb _ 7 (j + 2) + useP _ 7 = _
   rw [ih (by omega), h j (by omega), Nat.add_zero]
 exact h2 30 (by omega)
theorem ybqe {s : Fs} {sz : Nat} (hs : qpo s sz) : qhb s.nodes 7 32 = 0 := by
 rw [hs.nodes, ybhg]
 unfold useP hN
 rw [if_pos ⟨by show (1 : Int) ≠ 0; decide, rfl⟩]
 unfold qmd
 rw [List.length_eq_zero_iff, List.filter_eq_nil_iff]
 intro x hx
 rw [List.eq_of_mem_replicate hx]; decide
theorem ybbv {s : Fs} {sz : Nat} (hs : qpo s sz) (p : Nat) (h : sz ≤ 512) (hp : p < 512) (x0 : Pn) : qhb (qiq s (qde (qeu s (hN2 sz p) (ybfw s sz p)) x0 (hN2 sz p))).nodes 7 32 = 1 := by
 show qhb (s.nodes.set 1 (hN2 sz p)) 7 32 = 1
 rw [hs.nodes]
 show qhb (fX0 :: hN2 sz p :: List.replicate 30 zN) 7 32 = 1
 rw [ybhg]
 unfold useP hN2
 rw [if_pos ⟨by show (1 : Int) ≠ 0; decide, rfl⟩]
 exact (ybbj _ (qcq (by omega)) _ (ybvq (by omega))).2
end Go.Proofs.YtpoglnpjadmbpaaGreatDoor
