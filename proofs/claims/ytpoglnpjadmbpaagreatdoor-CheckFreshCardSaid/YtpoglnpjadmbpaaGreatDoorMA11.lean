/- Part of the proofs of CheckFresh, FsCut, FsHoles: the texts LiftFar, LiftCmp, Own. -/
import Derived.Test.YtpoglnpjadmbpaaGreatDoorMA1
import Derived.Test.YtpoglnpjadmbpaaGreatDoorMA2
import Derived.Test.YtpoglnpjadmbpaaGreatDoorProg
import Derived.LoopTactic
import Derived.IntWalk
import Derived.Lib.Hide
import Derived.BigQuiet
import Derived.Deep.QuietTactic
import Derived.Sort.Grow
import Derived.Test.YtpoglnpjadmbpaaGreatDoorRows
set_option maxHeartbeats 16000000
namespace Go.Proofs.YtpoglnpjadmbpaaGreatDoor
open Go.RowKit
theorem ybvt (h n : Int) (h0 : 0 ≤ h) (h1 : h < 256) (n0 : 0 ≤ n) (n1 : n < 256) : (((n - h).tmod 256 + 256) % 256) = ((farN h.toNat n.toNat : Nat) : Int) := by
 unfold farN
 have e1 : (n - h).tmod 256 = n - h := by
  by_cases c : 0 ≤ n - h
  ·rw [Int.tmod_eq_emod_of_nonneg c]; omega
  ·have : n - h = -(h - n) := by omega
   rw [this, Int.neg_tmod, Int.tmod_eq_emod_of_nonneg (by omega)]; omega
 rw [e1]
 omega
set_option maxRecDepth 100000 in
theorem ybxd (h n : Int) (w : World) (h0 : 0 ≤ h) (h1 : h < 256) (n0 : 0 ≤ n) (n1 : n < 256) :
  Calls Tryz.prog 204 #[.int .i64 h, .int .i64 n] w fun e w' => e = .returned (.int .i64 (farN h.toNat n.toNat : Int)) ∧ w = w' := by
 have HE := Lib.hid (ybvt h n h0 h1 n0 n1)
 have b1 : -256 ≤ (n - h).tmod 256 ∧ (n - h).tmod 256 ≤ 256 := by
  have e := ybvt h n h0 h1 n0 n1
  have a := Int.tmod_lt_of_pos (n - h) (b := 256) (by omega)
  have b : -256 < (n - h).tmod 256 := by
   by_cases c : 0 ≤ n - h
   ·have := Int.tmod_nonneg 256 c; omega
   ·have e2 : n - h = -(h - n) := by omega
    rw [e2, Int.neg_tmod]
    have := Int.tmod_lt_of_pos (h - n) (b := 256) (by omega)
    omega
  omega
 obtain ⟨c1, c2⟩ := b1
 have p1 : IntKind.i64.wrap (n - h) = n - h := IntWalk.i64_in _ (by omega)
 have p2 : IntKind.i64.wrap ((n - h).tmod 256 + 256) = (n - h).tmod 256 + 256 := IntWalk.i64_in _ (by omega)
 go_enter Tryz.func204, Tryz.ntmps204
 go_wp2
 go_ret
 rw [← HE.out]
 exact ⟨rfl, rfl⟩
end Go.Proofs.YtpoglnpjadmbpaaGreatDoor
namespace Go.Proofs.YtpoglnpjadmbpaaGreatDoor
open Go.RowKit Go.Sort
abbrev Rk := Nat × Nat × Nat
def encK (x : Rk) : List Value := [.int .i64 ((x.1 % 256 : Nat) : Int), .slice (some ⟨x.2.1, 0, none⟩) 64 x.2.2, .bool false]
def cfK (h : Nat) (x y : Rk) : Int := (farN h (x.1 % 256) : Int) - (farN h (y.1 % 256) : Int)
theorem qqc (x : Rk) : (encK x).length = 3 := rfl
theorem ybrs (x : Rk) : ∀ v ∈ encK x, v.oneCell' = true := by
 intro v hv
 simp [encK] at hv
 rcases hv with rfl | rfl | rfl <;> rfl
set_option maxRecDepth 100000 in
theorem ybwo (gh h : Nat) (hh : h < 256) (x y : Rk) (W : World) (hc : W.cell? ⟨gh, 0, none⟩ = some (.int .i64 (h : Int))) :
  Calls Tryz.prog 203 #[.agg (encK x).toArray, .agg (encK y).toArray, .pointer (some ⟨gh, 0, none⟩)] W fun e w' => e = .returned (.int .i64 (cfK h x y)) ∧ ∃ q os', w' = grow (W.drewN q) os' := by
 obtain ⟨a, Ha⟩ : ∃ a, Hid (x.1 % 256 = a) := ⟨_, rfl⟩
 obtain ⟨b, Hb⟩ : ∃ b, Hid (y.1 % 256 = b) := ⟨_, rfl⟩
 have ha : a < 256 := by rw [← Ha.out]; omega
 have hb : b < 256 := by rw [← Hb.out]; omega
 unfold cfK encK
 rw [Ha.out, Hb.out]
 obtain ⟨v1, Hv1⟩ : ∃ v, Hid (v = x.2.1) := ⟨_, rfl⟩
 obtain ⟨c1, Hc1⟩ : ∃ v, Hid (v = x.2.2) := ⟨_, rfl⟩
 obtain ⟨v2, Hv2⟩ : ∃ v, Hid (v = y.2.1) := ⟨_, rfl⟩
 obtain ⟨c2, Hc2⟩ : ∃ v, Hid (v = y.2.2) := ⟨_, rfl⟩
 rw [← Hv1.out, ← Hc1.out, ← Hv2.out, ← Hc2.out]
 have hfa := ybcu h a
 have hfb := ybcu h b
 have HF := Lib.hid (fun (n : Nat) (hn : n < 256) w => ybxd (h : Int) (n : Int) w (by omega) (by omega) (by omega) (by omega))
 simp only [Int.toNat_natCast] at HF
 have hlt : gh < W.heap.size := block_lt_of_cell hc
 have hn1 : ¬ gh = W.heap.size := by omega
 have hn2 : ¬ gh = W.heap.size + 1 := by omega
 go_enter Tryz.func203, Tryz.ntmps203
 go_wp2
 go_quiet ((go_at_call 204; exact Calls.quiet_of_same ((HF.out _ (by assumption) _).mono fun e w' h => ⟨h.1, h.2.symm⟩)))
 go_wp2
 go_ret
 exact ⟨rfl, _, _, by rw [alloc_eq_grow, alloc_eq_grow, grow_grow]; rfl⟩
end Go.Proofs.YtpoglnpjadmbpaaGreatDoor
namespace Go.Proofs.YtpoglnpjadmbpaaGreatDoor
open Go.ChangeShapes Go.WideShapes Go.ChangeAt Go.RowKit
theorem Tryz.own : ownKnob Tryz.prog.godebug = none := by kernel_rfl
theorem Tryz.laidOut : laidOutB Tryz.prog = true := by kernel_rfl
end Go.Proofs.YtpoglnpjadmbpaaGreatDoor
