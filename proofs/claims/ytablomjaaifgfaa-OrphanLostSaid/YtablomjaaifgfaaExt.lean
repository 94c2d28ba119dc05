/- What the functions of package extent compute. -/
import Derived.Test.YtablomjaaifgfaaProg
import Derived.Test.YtablomjaaifgfaaExtPlain
import Derived.WalkSpells
import Derived.WalkLawsBesides
import Derived.Lib.Hide
import Derived.LoopTactic
namespace Go.Proofs.Ytablomjaaifgfaa
open Go.RowKit

theorem ret_int {k : IntKind} {a b : Int} (h : a = b) : Ending.returned (.int k a) = .returned (.int k b) := by rw [h]

set_option maxHeartbeats 400000 in
theorem right_any (v : Value) (l : List Int) (w : World) (h : IntsAt w v l) (hl : l.length ≤ 1000000) :
    Calls Try.prog 22 #[v] w fun e w' => e = .returned (.int .i64 (rightE l)) ∧ w = w' := by
  obtain ⟨hlen, ⟨hn, a0, c0, rfl⟩ | ⟨g, off, cap, rfl, hc⟩⟩ := h
  · have HF : Hid (rightE l = 0) := by
      have : l = [] := List.length_eq_zero_iff.1 hn
      subst this; rfl
    clear hlen hn
    go_enter Try.func22, Try.ntmps22
    go_wp2
    go_loop [10] (fun i => i = .int .i64 0) (fun _ => 0)
    case atStart => rfl
    case round =>
      obtain rfl := hrel
      go_wp2
      go_ret
      exact ⟨ret_int HF.out.symm, rfl⟩
  · have HC := Lib.hid hc
    clear hc hlen
    obtain ⟨n, Hn⟩ : ∃ n, Hid (n = l.length) := ⟨_, rfl⟩
    rw [← Hn.out] at hl ⊢
    by_cases hbig : 8 < n
    · have HF : Hid (rightE l = 2) := by unfold rightE Hid; rw [← Hn.out, if_pos hbig]
      go_enter Try.func22, Try.ntmps22
      go_wp2
      go_ret
      exact ⟨ret_int HF.out.symm, rfl⟩
    · go_enter Try.func22, Try.ntmps22
      go_wp2
      go_loop [10] (fun i => ∃ k : Nat, k ≤ n ∧ i = .int .i64 k ∧ Hid ((l.take k).any badP = false)) (fun i => n - (intOf i).toNat)
      case atStart => exact ⟨0, Nat.zero_le _, rfl, rfl⟩
      case round =>
        obtain ⟨k, hk, rfl, HK⟩ := hrel
        by_cases hlt : k < n
        · have hkl : k < l.length := by rw [← Hn.out]; exact hlt
          have hcell := HC.out k _ (ints_get l k hkl)
          obtain ⟨p, Hp⟩ : ∃ p, Hid (p = l[k]) := ⟨l[k], rfl⟩
          rw [← Hp.out] at hcell
          have HB : Hid (badP p = true → rightE l = 1) := fun hb => by
            unfold rightE
            rw [← Hn.out, if_neg hbig, if_pos]
            rw [List.any_eq_true]
            exact ⟨l[k], List.getElem_mem hkl, by rw [← Hp.out]; exact hb⟩
          have HT : Hid (badP p = false → (l.take (k + 1)).any badP = false) := fun hb => by
            rw [← List.take_append_getElem hkl, List.any_append, HK.out, ← Hp.out]; simp [hb]
          by_cases h0 : p < 0
          · go_wp2
            go_ret
            exact ⟨ret_int (HB.out (by simp [badP, h0])).symm, rfl⟩
          · by_cases h1 : 256 ≤ p
            · go_wp2
              go_ret
              exact ⟨ret_int (HB.out (by simp [badP, h1])).symm, rfl⟩
            · go_wp2
              go_round
              case rel => exact ⟨k + 1, by omega, by go_num, HT.out (by simp [badP, h0, h1])⟩
              case measure => simp [intOf]; omega
        · have HF : Hid (rightE l = 0) := by
            unfold rightE Hid
            have := HK.out
            rw [List.take_of_length_le (by rw [← Hn.out]; omega)] at this
            rw [← Hn.out, if_neg hbig, if_neg (by simp [this])]
          go_wp2
          go_ret
          exact ⟨ret_int HF.out.symm, rfl⟩

end Go.Proofs.Ytablomjaaifgfaa
