/- Unpack: a forest out of three sectors. -/
import Derived.Test.YtnmfbhiooccgfaaSnap8
import Derived.Test.YtnmfbhiooccgfaaEqB
namespace Go.Proofs.Ytnmfbhiooccgfaa
open Go.RowKit

/-- The forest that bytes stand for. -/
def foB (bs : List Int) : Fo := ⟨fun k j => bs.getD (k * 16 + j) 0, fun k m => (bs.getD (64 + k * 32 + m / 8) 0).toNat.testBit (m % 8)⟩
/-- As far as the tree k, and of its nodes as far as i. -/
def upF (bs : List Int) (k i : Nat) : Fo := ⟨fun a j => if a < k ∨ (a = k ∧ j < i) then (foB bs).nd a j else 0, fun a => if a < k then (foB bs).hs a else emp⟩
def U8s (bs : List Int) : Prop := ∀ x, x ∈ bs → 0 ≤ x ∧ x ≤ 255
theorem U8s_get {bs : List Int} (h : U8s bs) (i : Nat) : 0 ≤ bs.getD i 0 ∧ bs.getD i 0 ≤ 255 := by
  rw [List.getD_eq_getElem?_getD]
  cases hq : bs[i]? with
  | none => simp
  | some x => exact h x (List.mem_of_getElem? hq)
theorem byteAt_foB {bs : List Int} (h : U8s bs) (k i : Nat) : (byteAt ((foB bs).hs k) i : Int) = bs.getD (64 + k * 32 + i) 0 := by
  obtain ⟨h0, h1⟩ := U8s_get h (64 + k * 32 + i)
  obtain ⟨x, hx⟩ := Int.eq_ofNat_of_zero_le h0
  have e : byteAt ((foB bs).hs k) i = byteN (fun b => x.testBit b) := byteN_congr fun b hb => by
    have e1 : (8 * i + b) / 8 = i := by omega
    have e2 : (8 * i + b) % 8 = b := by omega
    unfold foB
    simp only [e1, e2]
    rw [hx, Int.toNat_natCast]
  rw [e, byteN_bits _ (by omega), hx]
theorem encF_ext {f g : Fo} (h1 : ∀ k j, k < 4 → j < 16 → f.nd k j = g.nd k j) (h2 : ∀ k m, k < 4 → m < 256 → f.hs k m = g.hs k m) : encF f = encF g := by
  apply Array.ext_getElem?
  intro i
  by_cases hi : i < 192
  · obtain ⟨a, j, ha, hj, rfl⟩ : ∃ a j, a < 4 ∧ j < 48 ∧ i = a * 48 + j := ⟨i / 48, i % 48, by omega, by omega, by omega⟩
    rw [encF_get _ a j ha hj, encF_get _ a j ha hj]
    unfold cellF
    by_cases h : j < 16
    · rw [if_pos h, if_pos h, h1 a j ha h]
    · rw [if_neg h, if_neg h]
      have e : byteAt (f.hs a) (j - 16) = byteAt (g.hs a) (j - 16) := byteN_congr fun b hb => h2 a _ ha (by omega)
      rw [e]
  · rw [Array.getElem?_eq_none (by rw [encF_size]; omega), Array.getElem?_eq_none (by rw [encF_size]; omega)]
theorem upF_0 (bs : List Int) : encF (upF bs 0 0) = encF zeroF := encF_ext (fun k j _ _ => by simp [upF, zeroF]) (fun k m _ _ => by simp [upF, zeroF])
theorem upF_4 (bs : List Int) : encF (upF bs 4 0) = encF (foB bs) := encF_ext (fun k j hk _ => by simp [upF, hk]) (fun k m hk _ => by simp [upF, hk])
theorem upF_node (bs : List Int) (k i : Nat) (hk : k < 4) (hi : i < 16) : (encF (upF bs k i)).setIfInBounds (k * 48 + i) (.int .i64 (bs.getD (k * 16 + i) 0)) = encF (upF bs k (i + 1)) := by
  apply Array.ext_getElem?
  intro n
  rw [Array.getElem?_setIfInBounds]
  by_cases hn : n < 192
  · obtain ⟨a, j, ha, hj, rfl⟩ : ∃ a j, a < 4 ∧ j < 48 ∧ n = a * 48 + j := ⟨n / 48, n % 48, by omega, by omega, by omega⟩
    rw [encF_get _ a j ha hj, encF_get _ a j ha hj]
    by_cases he : k * 48 + i = a * 48 + j
    · have ea : a = k := by omega
      have ej : j = i := by omega
      subst ea ej
      rw [if_pos rfl, if_pos (by rw [encF_size]; omega)]
      unfold cellF upF
      simp only [if_pos hi]
      rw [if_pos (Or.inr ⟨trivial, by omega⟩)]
      rfl
    · rw [if_neg he]
      unfold cellF upF
      by_cases h16 : j < 16
      · simp only [if_pos h16]
        by_cases hc : a < k ∨ a = k ∧ j < i
        · rw [if_pos hc, if_pos (by omega)]
        · rw [if_neg hc, if_neg (by omega)]
      · simp only [if_neg h16]
  · rw [if_neg (by omega), Array.getElem?_eq_none (by rw [encF_size]; omega), Array.getElem?_eq_none (by rw [encF_size]; omega)]
theorem upF_set (bs : List Int) (hu : U8s bs) (hl : bs.length = 192) (k : Nat) (hk : k < 4) : ((encF (upF bs k 16)).toList.take (k * 48 + 16) ++ u8s ((bs.drop (64 + 32 * k)).take 32) ++ (encF (upF bs k 16)).toList.drop (k * 48 + 16 + (u8s ((bs.drop (64 + 32 * k)).take 32)).length)).toArray = encF (upF bs (k + 1) 0) := by
  have hlen : (u8s ((bs.drop (64 + 32 * k)).take 32)).length = 32 := by rw [u8s_len, List.length_take, List.length_drop, hl]; omega
  apply Array.ext_getElem?
  intro n
  rw [hlen]
  by_cases hn : n < 192
  · obtain ⟨a, j, ha, hj, rfl⟩ : ∃ a j, a < 4 ∧ j < 48 ∧ n = a * 48 + j := ⟨n / 48, n % 48, by omega, by omega, by omega⟩
    rw [encF_get _ a j ha hj, List.getElem?_toArray]
    have hl1 : ((encF (upF bs k 16)).toList.take (k * 48 + 16)).length = k * 48 + 16 := by rw [List.length_take, Array.length_toList, encF_size]; omega
    by_cases h1 : a * 48 + j < k * 48 + 16
    · rw [List.append_assoc, List.getElem?_append_left (by omega), List.getElem?_take, if_pos h1, Array.getElem?_toList, encF_get _ a j ha hj]
      unfold cellF upF
      by_cases h16 : j < 16
      · simp only [if_pos h16]
        rw [if_pos (by omega), if_pos (by omega)]
      · simp only [if_neg h16]
        rw [if_pos (by omega), if_pos (by omega)]
    · by_cases h2 : a * 48 + j < k * 48 + 48
      · have ea : a = k := by omega
        subst ea
        rw [List.append_assoc, List.getElem?_append_right (by omega), List.getElem?_append_left (by omega), hl1, show a * 48 + j - (a * 48 + 16) = j - 16 by omega]
        unfold u8s
        rw [List.getElem?_map, List.getElem?_take, if_pos (by omega), List.getElem?_drop]
        unfold cellF upF
        simp only [if_neg (show ¬ j < 16 by omega)]
        rw [if_pos (by omega), byteAt_foB hu]
        rw [show 64 + 32 * a + (j - 16) = 64 + a * 32 + (j - 16) by omega, List.getD_eq_getElem?_getD]
        obtain ⟨x, hx⟩ : ∃ x, bs[64 + a * 32 + (j - 16)]? = some x := ⟨_, List.getElem?_eq_getElem (by omega)⟩
        rw [hx]
        rfl
      · rw [List.getElem?_append_right (by rw [List.length_append]; omega), List.length_append, hl1, hlen, List.getElem?_drop, show k * 48 + 16 + 32 + (a * 48 + j - (k * 48 + 16 + 32)) = a * 48 + j by omega, Array.getElem?_toList, encF_get _ a j ha hj]
        unfold cellF upF
        by_cases h16 : j < 16
        · simp only [if_pos h16]
          rw [if_neg (by omega), if_neg (by omega)]
        · simp only [if_neg h16]
          rw [if_neg (by omega), if_neg (by omega)]
  · rw [Array.getElem?_eq_none (by simp [encF_size, hlen]; omega), Array.getElem?_eq_none (by rw [encF_size]; omega)]
theorem pack_foB {bs : List Int} (hu : U8s bs) (hl : bs.length = 192) : packF (foB bs) = bs := by
  apply List.ext_getElem?
  intro n
  by_cases hn : n < 192
  · obtain ⟨x, hx⟩ : ∃ x, bs[n]? = some x := ⟨_, List.getElem?_eq_getElem (by omega)⟩
    have hD : bs.getD n 0 = x := by rw [List.getD_eq_getElem?_getD, hx]; rfl
    unfold packF
    by_cases h : n < 64
    · obtain ⟨k, i, hk, hi, rfl⟩ : ∃ k i, k < 4 ∧ i < 16 ∧ n = k * 16 + i := ⟨n / 16, n % 16, by omega, by omega, by omega⟩
      rw [List.getElem?_append_left (by rw [Ln_len]; exact h), Ln_get _ k i hk hi, hx, ← hD]
      rfl
    · obtain ⟨k, i, hk, hi, rfl⟩ : ∃ k i, k < 4 ∧ i < 32 ∧ n = 64 + k * 32 + i := ⟨(n - 64) / 32, (n - 64) % 32, by omega, by omega, by omega⟩
      rw [List.getElem?_append_right (by rw [Ln_len]; omega), Ln_len, show 64 + k * 32 + i - 64 = k * 32 + i by omega, Ls_get _ k i hk hi, byteAt_foB hu, hD, hx]
  · rw [List.getElem?_eq_none (by rw [packF_len]; omega), List.getElem?_eq_none (by omega)]

/-- What Unpack answers. -/
def unpF (bs : List Int) : Fo × Int := if bs.length = 192 ∧ rightF (foB bs) = 0 then (foB bs, 0) else (zeroF, 3)

end Go.Proofs.Ytnmfbhiooccgfaa
