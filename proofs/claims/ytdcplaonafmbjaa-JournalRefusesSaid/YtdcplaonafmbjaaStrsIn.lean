/- A string that is among strings: Index, Contains. -/
import Derived.Test.YtdcplaonafmbjaaJState
namespace Go.Proofs.Ytdcplaonafmbjaa
open Go.RowKit


def strs (L : List ByteArray) : List Value := L.map Value.string
def StrsAt (w : World) (v : Value) (L : List ByteArray) : Prop := RowAt w v 1 L.length (strs L)
theorem strs_get (l : List ByteArray) (j : Nat) (hj : j < l.length) : (strs l)[j]? = some (.string l[j]) := by simp [strs, hj]

set_option maxRecDepth 100000 in
set_option maxHeartbeats 1000000 in
theorem indexS_any (v : Value) (L : List ByteArray) (s : ByteArray) (w : World) (h : StrsAt w v L) (hl : L.length ≤ 1000000) (hs : s ∈ L) :
    Calls Try.prog 51 #[v, .string s] w fun e w' => (∃ k : Nat, e = .returned (.int .i64 (k : Int))) ∧ w = w' := by
  obtain ⟨N, HN⟩ : ∃ N, Hid (N = L.length) := ⟨_, rfl⟩
  obtain ⟨p, cp, hu, HP⟩ : ∃ p cp, v = .slice p N cp ∧ Hid (0 < N → ∃ g o, p = some ⟨g, o, none⟩ ∧ ∀ (j : Nat) (x : Value), (strs L)[j]? = some x → w.cell? ⟨g, o + j, none⟩ = some x) := by
    rw [HN.out]
    obtain ⟨_, ⟨h0, a0, c0, rfl⟩ | ⟨g, o, cap, rfl, hc⟩⟩ := h
    · exact ⟨a0, c0, by rw [h0], fun h => by omega⟩
    · exact ⟨_, cap, rfl, fun _ => ⟨g, o, rfl, hc⟩⟩
  rw [← HN.out] at hl
  subst hu
  have HS := Lib.hid hs
  clear h hs
  go_enter Try.func51, Try.ntmps51
  go_wp2
  go_loop [8] (fun i => ∃ k : Nat, k ≤ N ∧ i = .int .i64 k ∧ Hid (s ∉ L.take k)) (fun i => N - (intOf i).toNat)
  case atStart => exact ⟨0, Nat.zero_le _, rfl, by simp [Hid]⟩
  case round =>
    obtain ⟨k, hk, rfl, HK⟩ := hrel
    by_cases hlt : k < N
    · obtain ⟨g, o, rfl, hc⟩ := HP.out (by omega)
      have hkl : k < L.length := by rw [← HN.out]; exact hlt
      have c1 := hc _ _ (strs_get L k hkl)
      obtain ⟨x, hx⟩ : ∃ x, Hid (x = L[k]) := ⟨L[k], rfl⟩
      rw [← hx.out] at c1
      have HC := Lib.hid hc
      clear hc
      have hlt2 : (k : Int) < (N : Int) := by omega
      go_wp2
      · go_ret
        exact ⟨⟨k, rfl⟩, rfl⟩
      · have hne : (s.toList == x.toList) = false := by assumption
        have HNE : Hid (s ≠ x) := fun e => by rw [e] at hne; simp at hne
        clear hne
        go_round
        case rel =>
          refine ⟨k + 1, by omega, by go_num, fun hm => ?_⟩
          rw [← List.take_append_getElem hkl, List.mem_append] at hm
          rcases hm with hm | hm
          · exact HK.out hm
          · exact HNE.out (by rw [hx.out]; simpa using hm)
        case measure => simp [intOf]; omega
    · exfalso
      have := HK.out
      rw [List.take_of_length_le (by rw [← HN.out]; omega)] at this
      exact this HS.out

set_option maxRecDepth 100000 in
set_option maxHeartbeats 1000000 in
theorem containsS_true (v : Value) (L : List ByteArray) (s : ByteArray) (w : World) (h : StrsAt w v L) (hl : L.length ≤ 1000000) (hs : s ∈ L) :
    Calls Try.prog 27 #[v, .string s] w fun e w' => e = .returned (.bool true) ∧ w = w' := by
  have H := Lib.hid h
  have HS := Lib.hid hs
  clear h hs
  go_enter Try.func27, Try.ntmps27
  go_wp2_with fail
  refine (indexS_any _ L s _ H.out hl HS.out).mono ?_
  rintro e w' ⟨⟨k, rfl⟩, rfl⟩
  have hk : (0 : Int) ≤ (k : Int) := by omega
  go_wp2
  go_ret
  exact ⟨by simp, rfl⟩

end Go.Proofs.Ytdcplaonafmbjaa
