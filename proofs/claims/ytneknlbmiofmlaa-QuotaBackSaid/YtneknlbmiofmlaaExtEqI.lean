/- slices.Equal of two slices of ints that read alike. -/
import Derived.Test.YtneknlbmiofmlaaExtPts
namespace Go.Proofs.Ytneknlbmiofmlaa
open Go.RowKit

set_option maxHeartbeats 1000000 in
theorem equalInts_true (u v : Value) (l : List Int) (w : World) (h1 : IntsAt w u l) (h2 : IntsAt w v l) (hl : l.length ≤ 1000000) :
    Calls Try.prog 22 #[u, v] w fun e w' => e = .returned (.bool true) ∧ Below w.heap.size w w' := by
  unfold IntsAt at h1 h2
  obtain ⟨N, HN⟩ : ∃ N, Hid (N = l.length) := ⟨_, rfl⟩
  rw [← HN.out] at h1 h2 hl
  obtain ⟨p, cp, hu, HP⟩ : ∃ p cp, u = .slice p N cp ∧ Hid (0 < N → ∃ g o, p = some ⟨g, o, none⟩ ∧ ∀ (j : Nat) (x : Value), (ints l)[j]? = some x → w.cell? ⟨g, o + j, none⟩ = some x) := by
    obtain ⟨_, ⟨h0, a0, c0, rfl⟩ | ⟨g, o, cap, rfl, hc⟩⟩ := h1
    · exact ⟨a0, c0, by rw [h0], fun h => by omega⟩
    · exact ⟨_, cap, rfl, fun _ => ⟨g, o, rfl, hc⟩⟩
  obtain ⟨q, cq, hv, HQ⟩ : ∃ p cp, v = .slice p N cp ∧ Hid (0 < N → ∃ g o, p = some ⟨g, o, none⟩ ∧ ∀ (j : Nat) (x : Value), (ints l)[j]? = some x → w.cell? ⟨g, o + j, none⟩ = some x) := by
    obtain ⟨_, ⟨h0, a0, c0, rfl⟩ | ⟨g, o, cap, rfl, hc⟩⟩ := h2
    · exact ⟨a0, c0, by rw [h0], fun h => by omega⟩
    · exact ⟨_, cap, rfl, fun _ => ⟨g, o, rfl, hc⟩⟩
  subst hu hv
  clear h1 h2
  go_enter Try.func22, Try.ntmps22
  go_wp2
  go_loopw [13] (fun i wr => ∃ k : Nat, k ≤ N ∧ i = .int .i64 k ∧ Below w.heap.size w wr) (fun i _ => N - (intOf i).toNat)
  case atStart => exact ⟨0, Nat.zero_le _, rfl, Below.refl _ _⟩
  case round =>
    obtain ⟨k, hk, rfl, HB⟩ := hrel
    by_cases hlt : k < N
    · obtain ⟨g, o, rfl, hc⟩ := HP.out (by omega)
      obtain ⟨g', o', rfl, hc'⟩ := HQ.out (by omega)
      have hkl : k < l.length := by rw [← HN.out]; exact hlt
      have hp := ints_get l k hkl
      obtain ⟨a, ha⟩ : ∃ a, Hid (a = l[k]) := ⟨l[k], rfl⟩
      rw [← ha.out] at hp
      have keep : ∀ {x : Addr} {y : Value}, w.cell? x = some y → wr.cell? x = some y := fun h => (HB.cell (block_lt_of_cell h)).trans h
      have c1 := keep (hc _ _ hp)
      have d1 := keep (hc' _ _ hp)
      have HC := Lib.hid hc
      have HC' := Lib.hid hc'
      clear hc hc' hp keep
      have hlt2 : (k : Int) < (N : Int) := by omega
      go_wp2
      go_quiet (fail)
      go_wp2
      go_roundw
      case rel => exact ⟨k + 1, by omega, by go_num, below_drewN HB _⟩
      case measure => simp [intOf]; omega
    · go_wp2
      go_ret
      exact ⟨rfl, HB⟩

end Go.Proofs.Ytneknlbmiofmlaa
