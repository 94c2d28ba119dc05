/- Forests: how they lie, and what There and Shared say. -/
import Derived.Test.YtnmfbhiooccgfaaSnapLaws
import Derived.Test.YtnmfbhiooccgfaaBits4
namespace Go.Proofs.Ytnmfbhiooccgfaa
open Go.RowKit

/-- A forest: of each tree its nodes' sectors, and which sectors it has. -/
structure Fo where
  nd : Nat → Nat → Int
  hs : Nat → Nat → Bool
def cellF (f : Fo) (k j : Nat) : Value := if j < 16 then .int .i64 (f.nd k j) else .int .u8 (byteAt (f.hs k) (j - 16))
def encF (f : Fo) : Array Value := Array.ofFn (n := 192) fun i => cellF f (i.val / 48) (i.val % 48)
def encT (f : Fo) (k : Nat) : Array Value := Array.ofFn (n := 48) fun j => cellF f k j.val
def encN (f : Fo) (k : Nat) : Array Value := Array.ofFn (n := 16) fun j => cellF f k j.val
theorem encF_size (f : Fo) : (encF f).size = 192 := by simp [encF]
theorem encT_size (f : Fo) (k : Nat) : (encT f k).size = 48 := by simp [encT]
theorem encN_size (f : Fo) (k : Nat) : (encN f k).size = 16 := by simp [encN]
theorem encF_get (f : Fo) (k j : Nat) (hk : k < 4) (hj : j < 48) : (encF f)[k * 48 + j]? = some (cellF f k j) := by
  have h : k * 48 + j < 192 := by omega
  simp only [encF, Array.getElem?_ofFn, dif_pos h]
  rw [show (k * 48 + j) / 48 = k by omega, show (k * 48 + j) % 48 = j by omega]
theorem encT_get (f : Fo) (k j : Nat) (hj : j < 48) : (encT f k)[j]? = some (cellF f k j) := by
  simp only [encT, Array.getElem?_ofFn, dif_pos hj]
theorem encN_get (f : Fo) (k j : Nat) (hj : j < 16) : (encN f k)[j]? = some (cellF f k j) := by
  simp only [encN, Array.getElem?_ofFn, dif_pos hj]
theorem cellF_one (f : Fo) (k j : Nat) : (cellF f k j).oneCell' = true := by unfold cellF; split <;> rfl
theorem encF_one (f : Fo) : (encF f).all (·.oneCell') = true := by
  rw [Array.all_eq_true_iff_forall_mem]
  intro x hx
  obtain ⟨i, hi, rfl⟩ := Array.mem_iff_getElem.1 hx
  simp only [encF, Array.getElem_ofFn]
  exact cellF_one _ _ _
theorem encT_one (f : Fo) (k : Nat) : (encT f k).all (·.oneCell') = true := by
  rw [Array.all_eq_true_iff_forall_mem]
  intro x hx
  obtain ⟨i, hi, rfl⟩ := Array.mem_iff_getElem.1 hx
  simp only [encT, Array.getElem_ofFn]
  exact cellF_one _ _ _
theorem part_has (f : Fo) (k : Nat) (hk : k < 4) : ∀ j, j < (enc (f.hs k)).size → (encF f)[k * 48 + 16 + j]? = (enc (f.hs k))[j]? := fun j hj => by
  rw [enc_size] at hj
  rw [Nat.add_assoc, encF_get f k (16 + j) hk (by omega), enc_get _ _ hj]
  unfold cellF
  rw [if_neg (by omega), show 16 + j - 16 = j by omega]
theorem part_tree (f : Fo) (k : Nat) (hk : k < 4) : ∀ j, j < (encT f k).size → (encF f)[k * 48 + j]? = (encT f k)[j]? := fun j hj => by
  rw [encT_size] at hj
  rw [encF_get f k j hk hj, encT_get f k j hj]
theorem part_nodes (f : Fo) (k : Nat) (hk : k < 4) : ∀ j, j < (encN f k).size → (encF f)[k * 48 + j]? = (encN f k)[j]? := fun j hj => by
  rw [encN_size] at hj
  rw [encF_get f k j hk (by omega), encN_get f k j hj]

/-- Is there a tree? -/
def thereB (f : Fo) (k : Nat) : Bool := !(f.nd k 0 == 0)

theorem forT : Try.prog.underlying 42 = some (.array 4 40) := by kernel_rfl
theorem forI : (Try.prog.info? 42).map (·.size) = some 192 := by kernel_rfl
theorem treeI : (Try.prog.info? 40).map (·.size) = some 48 := by kernel_rfl
theorem nodesI : (Try.prog.info? 38).map (·.size) = some 16 := by kernel_rfl

set_option maxRecDepth 100000 in
set_option maxHeartbeats 1000000 in
theorem there_raw (A : Array Value) (k : Nat) (x : Int) (w : World) (hk : k < 4) (hx : A[k * 48]? = some (.int .i64 x)) :
    Calls Try.prog 24 #[.agg A, .int .i64 (k : Int)] w fun e w' => e = .returned (.bool (!(x == 0))) ∧ Below w.heap.size w w' := by
  have hk2 : (k : Int) < 4 := by omega
  have hk3 : (0 : Int) ≤ (k : Int) := by omega
  by_cases h0 : x = 0
  · subst h0
    go_enter Try.func24, Try.ntmps24
    go_wp2
    go_ret
    exact ⟨rfl, (Below.refl _ _).alloc (Nat.le_refl _) _⟩
  · have b1 : (x == 0) = false := by simpa using h0
    have b2 : (x != 0) = true := by simpa using h0
    have H0 := Lib.hid h0
    clear h0
    go_enter Try.func24, Try.ntmps24
    go_wp2
    go_ret
    rw [b1]
    exact ⟨rfl, (Below.refl _ _).alloc (Nat.le_refl _) _⟩
theorem there_in (f : Fo) (k : Nat) (w : World) (hk : k < 4) :
    Calls Try.prog 24 #[.agg (encF f), .int .i64 (k : Int)] w fun e w' => e = .returned (.bool (thereB f k)) ∧ Below w.heap.size w w' :=
  there_raw _ k (f.nd k 0) w hk (by have := encF_get f k 0 hk (by omega); rw [Nat.add_zero] at this; rw [this]; rfl)

end Go.Proofs.Ytnmfbhiooccgfaa
