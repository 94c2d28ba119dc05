/- slices.Equal of two slices of bytes, for a seat without extents. -/
import Derived.Test.YtheiaebmemcbhaaDoorU8
import Derived.Test.YtheiaebmemcbhaaDoorProg
import Derived.LoopTactic
import Derived.Lib.Hide
import Derived.Test.YtheiaebmemcbhaaDoorLaws
import Derived.WalkKit
import Derived.BigQuiet
import Derived.Deep.QuietTactic
namespace Go.Proofs.YtheiaebmemcbhaaDoor
open Go.RowKit

theorem below_drewN {B : Nat} {a w : World} (h : Below B a w) (n : Nat) : Below B a (w.drewN n) := ⟨h.os, h.tape, h.output, h.size, h.block⟩
/-- Bytes are the same, or not. -/
def eqB (a b : List Int) : Bool := decide (a = b)
set_option maxRecDepth 100000 in
set_option maxHeartbeats 1000000 in
theorem equalBytes_dec (u v : Value) (a b : List Int) (w : World) (h1 : BytesAt w u a) (h2 : BytesAt w v b) (hab : a.length = b.length) (hl : a.length ≤ 1000000) :
    Calls Tryd.prog 19 #[u, v] w fun e w' => e = .returned (.bool (eqB a b)) ∧ Below w.heap.size w w' := by
  obtain ⟨N, HN⟩ : ∃ N, Hid (N = a.length) := ⟨_, rfl⟩
  have HNb : Hid (N = b.length) := by rw [HN.out]; exact hab
  obtain ⟨p, cp, hu, HP⟩ : ∃ p cp, u = .slice p N cp ∧ Hid (0 < N → ∃ g o, p = some ⟨g, o, none⟩ ∧ ∀ (j : Nat) (x : Value), (u8s a)[j]? = some x → w.cell? ⟨g, o + j, none⟩ = some x) := by
    rw [HN.out]
    obtain ⟨_, ⟨h0, a0, c0, rfl⟩ | ⟨g, o, cap, rfl, hc⟩⟩ := h1
    · exact ⟨a0, c0, by rw [h0], fun h => by omega⟩
    · exact ⟨_, cap, rfl, fun _ => ⟨g, o, rfl, hc⟩⟩
  obtain ⟨q, cq, hv, HQ⟩ : ∃ p cp, v = .slice p N cp ∧ Hid (0 < N → ∃ g o, p = some ⟨g, o, none⟩ ∧ ∀ (j : Nat) (x : Value), (u8s b)[j]? = some x → w.cell? ⟨g, o + j, none⟩ = some x) := by
    rw [HNb.out]
    obtain ⟨_, ⟨h0, a0, c0, rfl⟩ | ⟨g, o, cap, rfl, hc⟩⟩ := h2
    · exact ⟨a0, c0, by rw [h0], fun h => by omega⟩
    · exact ⟨_, cap, rfl, fun _ => ⟨g, o, rfl, hc⟩⟩
  subst hu hv
  rw [← HN.out] at hl
  clear h1 h2 hab
  go_enter Tryd.func19, Tryd.ntmps19
  go_wp2
  go_loopw [13] (fun i wr => ∃ k : Nat, k ≤ N ∧ i = .int .i64 k ∧ Hid (a.take k = b.take k) ∧ Below w.heap.size w wr) (fun i _ => N - (intOf i).toNat)
  case atStart => exact ⟨0, Nat.zero_le _, rfl, rfl, Below.refl _ _⟩
  case round =>
    obtain ⟨k, hk, rfl, HE, HB⟩ := hrel
    by_cases hlt : k < N
    · obtain ⟨g, o, rfl, hc⟩ := HP.out (by omega)
      obtain ⟨g', o', rfl, hc'⟩ := HQ.out (by omega)
      have hkl : k < a.length := by rw [← HN.out]; exact hlt
      have hkb : k < b.length := by rw [← HNb.out]; exact hlt
      have hp := u8s_get a k hkl
      have hq := u8s_get b k hkb
      obtain ⟨x, hx⟩ : ∃ x, Hid (x = a[k]) := ⟨a[k], rfl⟩
      obtain ⟨y, hy⟩ : ∃ y, Hid (y = b[k]) := ⟨b[k], rfl⟩
      rw [← hx.out] at hp
      rw [← hy.out] at hq
      have keep : ∀ {x : Addr} {y : Value}, w.cell? x = some y → wr.cell? x = some y := fun h => (HB.cell (block_lt_of_cell h)).trans h
      have c1 := keep (hc _ _ hp)
      have d1 := keep (hc' _ _ hq)
      have HC := Lib.hid hc
      have HC' := Lib.hid hc'
      clear hc hc' hp hq keep
      have hlt2 : (k : Int) < (N : Int) := by omega
      by_cases hxy : x = y
      · have HE2 : Hid (a.take (k + 1) = b.take (k + 1)) := by
          show _ = _
          rw [← List.take_append_getElem hkl, ← List.take_append_getElem hkb, HE.out, ← hx.out, ← hy.out, hxy]
        subst hxy
        go_wp2
        go_quiet (fail)
        go_wp2
        go_roundw
        case rel => exact ⟨k + 1, by omega, by go_num, HE2, below_drewN HB _⟩
        case measure => simp [intOf]; omega
      · have HF : Hid (eqB a b = false) := by
          show _ = _
          unfold eqB
          rw [decide_eq_false_iff_not]
          intro e
          apply hxy
          rw [hx.out, hy.out]
          subst e
          rfl
        have b1 : (x == y) = false := by simpa using hxy
        have b2 : (x != y) = true := by simpa using hxy
        have HXY := Lib.hid hxy
        clear hxy
        go_wp2
        go_quiet (fail)
        go_wp2
        go_ret
        rw [HF.out]
        exact ⟨rfl, below_drewN HB _⟩
    · have HF : Hid (eqB a b = true) := by
        show _ = _
        unfold eqB
        rw [decide_eq_true_iff]
        have := HE.out
        rw [List.take_of_length_le (by rw [← HN.out]; omega), List.take_of_length_le (by rw [← HNb.out]; omega)] at this
        exact this
      go_wp2
      go_ret
      rw [HF.out]
      exact ⟨rfl, HB⟩

end Go.Proofs.YtheiaebmemcbhaaDoor
