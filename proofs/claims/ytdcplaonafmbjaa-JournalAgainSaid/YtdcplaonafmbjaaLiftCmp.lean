/- What compares two requests: the closure of part. -/
import Derived.Test.YtdcplaonafmbjaaLiftFar
namespace Go.Proofs.Ytdcplaonafmbjaa
open Go.RowKit Go.Sort

/-- A request that is written: its sector, its bytes' block, their capacity. -/
abbrev Rk := Nat × Nat × Nat
def encK (x : Rk) : List Value := [.int .i64 ((x.1 % 256 : Nat) : Int), .slice (some ⟨x.2.1, 0, none⟩) 64 x.2.2, .bool false]
def cfK (h : Nat) (x y : Rk) : Int := (farN h (x.1 % 256) : Int) - (farN h (y.1 % 256) : Int)
theorem encK_len (x : Rk) : (encK x).length = 3 := rfl
theorem encK_one (x : Rk) : ∀ v ∈ encK x, v.oneCell' = true := by
  intro v hv
  simp [encK] at hv
  rcases hv with rfl | rfl | rfl <;> rfl

set_option maxRecDepth 100000 in
set_option maxHeartbeats 1000000 in
theorem cmp_any (gh h : Nat) (hh : h < 256) (x y : Rk) (W : World) (hc : W.cell? ⟨gh, 0, none⟩ = some (.int .i64 (h : Int))) :
    Calls Try.prog 75 #[.agg (encK x).toArray, .agg (encK y).toArray, .pointer (some ⟨gh, 0, none⟩)] W fun e w' => e = .returned (.int .i64 (cfK h x y)) ∧ ∃ q os', w' = grow (W.drewN q) os' := by
  obtain ⟨a, Ha⟩ : ∃ a, Hid (x.1 % 256 = a) := ⟨_, rfl⟩
  obtain ⟨b, Hb⟩ : ∃ b, Hid (y.1 % 256 = b) := ⟨_, rfl⟩
  have ha : a < 256 := by rw [← Ha.out]; omega
  have hb : b < 256 := by rw [← Hb.out]; omega
  unfold cfK encK
  rw [Ha.out, Hb.out]
  obtain ⟨v1, Hv1⟩ : ∃ v, Hid (v = x.2.1) := ⟨_, rfl⟩
  obtain ⟨c1, Hc1⟩ : ∃ v, Hid (v = x.2.2) := ⟨_, rfl⟩
  obtain ⟨v2, Hv2⟩ : ∃ v, Hid (v = y.2.1) := ⟨_, rfl⟩
  obtain ⟨c2, Hc2⟩ : ∃ v, Hid (v = y.2.2) := ⟨_, rfl⟩
  rw [← Hv1.out, ← Hc1.out, ← Hv2.out, ← Hc2.out]
  have hfa := farN_lt h a
  have hfb := farN_lt h b
  have HF := Lib.hid (fun (n : Nat) (hn : n < 256) w => far_any (h : Int) (n : Int) w (by omega) (by omega) (by omega) (by omega))
  simp only [Int.toNat_natCast] at HF
  have hlt : gh < W.heap.size := block_lt_of_cell hc
  have hn1 : ¬ gh = W.heap.size := by omega
  have hn2 : ¬ gh = W.heap.size + 1 := by omega
  go_enter Try.func75, Try.ntmps75
  go_wp2
  go_quiet ((go_at_call 76; exact Calls.quiet_of_same ((HF.out _ (by assumption) _).mono fun e w' h => ⟨h.1, h.2.symm⟩)))
  go_wp2
  go_ret
  exact ⟨rfl, _, _, by rw [alloc_eq_grow, alloc_eq_grow, grow_grow]; rfl⟩

end Go.Proofs.Ytdcplaonafmbjaa
