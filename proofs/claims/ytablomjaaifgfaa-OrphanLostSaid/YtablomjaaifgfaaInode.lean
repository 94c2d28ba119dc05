/- What is right of an inode; how many sectors it takes. -/
import Derived.Test.YtablomjaaifgfaaExt
import Derived.Deep.QuietTactic
import Derived.BigQuiet
namespace Go.Proofs.Ytablomjaaifgfaa
open Go.RowKit

/-- So many sectors take so many bytes. -/
def blocksE (s : Int) : Int := if s ≤ 0 then 0 else (s - 1) / 64 + 1
theorem blocks_any (s : Int) (w : World) (h0 : -9223372036854775808 ≤ s) (h1 : s ≤ 9223372036854775807) :
    Calls Try.prog 23 #[.int .i64 s] w fun e w' => e = .returned (.int .i64 (blocksE s)) ∧ w = w' := by
  by_cases h : s ≤ 0
  · have HF : Hid (blocksE s = 0) := by show _ = _; unfold blocksE; rw [if_pos h]
    go_enter Try.func23, Try.ntmps23
    go_wp2
    go_ret
    exact ⟨ret_int HF.out.symm, rfl⟩
  · have HF : Hid (blocksE s = (s - 1) / 64 + 1) := by show _ = _; unfold blocksE; rw [if_neg h]
    go_enter Try.func23, Try.ntmps23
    go_wp2
    go_ret
    exact ⟨ret_int HF.out.symm, rfl⟩

/-- What is wrong with a node: 0, if nothing is. -/
def rightN (k m u g s l up : Int) (P : List Int) : Int :=
  if k = 0 then (if m = 0 ∧ u = 0 ∧ g = 0 ∧ s = 0 ∧ l = 0 ∧ up = 0 ∧ P.length = 0 then 0 else 3)
  else if k < 0 ∨ 3 < k ∨ m < 0 ∨ 511 < m ∨ u < 0 ∨ 255 < u ∨ g < 0 ∨ 255 < g ∨ l < 0 ∨ 200 < l then 1
  else if s < 0 ∨ 512 < s then 2
  else if (k = 2 ∧ (up < 1 ∨ 32 < up)) ∨ (k ≠ 2 ∧ up ≠ 0) then 12
  else if rightE P ≠ 0 then rightE P
  else if (P.length : Int) ≠ blocksE s then 3 else 0

/-- The node's cells. -/
def nodeC (k m u g s l up : Int) (v : Value) : Array Value := #[.int .i64 k, .int .i64 m, .int .i64 u, .int .i64 g, .int .i64 s, .int .i64 l, .int .i64 up, v]

set_option maxRecDepth 100000 in
set_option maxHeartbeats 1000000 in
theorem right_none (k m u g s l up : Int) (v : Value) (P : List Int) (w : World) (h : IntsAt w v P) (hl : P.length ≤ 1000000) (hk : k = 0) :
    Calls Try.prog 7 #[.agg #[.int .i64 k, .int .i64 m, .int .i64 u, .int .i64 g, .int .i64 s, .int .i64 l, .int .i64 up, v]] w fun e w' => e = .returned (.int .i64 (rightN k m u g s l up P)) ∧ Below w.heap.size w w' := by
  obtain ⟨N, HN⟩ : ∃ N, Hid (N = P.length) := ⟨_, rfl⟩
  obtain ⟨p, cp, hu⟩ : ∃ p cp, v = .slice p N cp := by
    rw [HN.out]
    obtain ⟨_, ⟨h0, a0, c0, rfl⟩ | ⟨g, o, cap, rfl, hc⟩⟩ := h
    · exact ⟨a0, c0, by rw [h0]⟩
    · exact ⟨_, cap, rfl⟩
  subst hu
  have HA : Hid (∀ o : Obj, Below w.heap.size w (w.alloc o)) := fun o => (Below.refl _ _).alloc (Nat.le_refl _) o
  have H : Hid (∀ o : Obj, IntsAt (w.alloc o) (.slice p N cp) P) := fun o => RowAt.below h (HA.out o)
  rw [← HN.out] at hl
  clear h
  subst hk
  by_cases hm : m = 0
  rotate_left
  · have b1 : (m == 0) = false := by simpa using hm
    have b2 : (m != 0) = true := by simpa using hm
    have HZ := Lib.hid hm
    clear hm
    have HF : Hid (rightN 0 m u g s l up P = 3) := by show _ = _; unfold rightN; rw [if_pos rfl, if_neg (fun hc => HZ.out (by omega))]
    go_enter Try.func7, Try.ntmps7
    go_wp2
    go_ret
    exact ⟨ret_int HF.out.symm, HA.out _⟩
  subst hm
  by_cases hu : u = 0
  rotate_left
  · have b1 : (u == 0) = false := by simpa using hu
    have b2 : (u != 0) = true := by simpa using hu
    have HZ := Lib.hid hu
    clear hu
    have HF : Hid (rightN 0 0 u g s l up P = 3) := by show _ = _; unfold rightN; rw [if_pos rfl, if_neg (fun hc => HZ.out (by omega))]
    go_enter Try.func7, Try.ntmps7
    go_wp2
    go_ret
    exact ⟨ret_int HF.out.symm, HA.out _⟩
  subst hu
  by_cases hg : g = 0
  rotate_left
  · have b1 : (g == 0) = false := by simpa using hg
    have b2 : (g != 0) = true := by simpa using hg
    have HZ := Lib.hid hg
    clear hg
    have HF : Hid (rightN 0 0 0 g s l up P = 3) := by show _ = _; unfold rightN; rw [if_pos rfl, if_neg (fun hc => HZ.out (by omega))]
    go_enter Try.func7, Try.ntmps7
    go_wp2
    go_ret
    exact ⟨ret_int HF.out.symm, HA.out _⟩
  subst hg
  by_cases hs : s = 0
  rotate_left
  · have b1 : (s == 0) = false := by simpa using hs
    have b2 : (s != 0) = true := by simpa using hs
    have HZ := Lib.hid hs
    clear hs
    have HF : Hid (rightN 0 0 0 0 s l up P = 3) := by show _ = _; unfold rightN; rw [if_pos rfl, if_neg (fun hc => HZ.out (by omega))]
    go_enter Try.func7, Try.ntmps7
    go_wp2
    go_ret
    exact ⟨ret_int HF.out.symm, HA.out _⟩
  subst hs
  by_cases hl : l = 0
  rotate_left
  · have b1 : (l == 0) = false := by simpa using hl
    have b2 : (l != 0) = true := by simpa using hl
    have HZ := Lib.hid hl
    clear hl
    have HF : Hid (rightN 0 0 0 0 0 l up P = 3) := by show _ = _; unfold rightN; rw [if_pos rfl, if_neg (fun hc => HZ.out (by omega))]
    go_enter Try.func7, Try.ntmps7
    go_wp2
    go_ret
    exact ⟨ret_int HF.out.symm, HA.out _⟩
  subst hl
  by_cases hup : up = 0
  rotate_left
  · have b1 : (up == 0) = false := by simpa using hup
    have b2 : (up != 0) = true := by simpa using hup
    have HZ := Lib.hid hup
    clear hup
    have HF : Hid (rightN 0 0 0 0 0 0 up P = 3) := by show _ = _; unfold rightN; rw [if_pos rfl, if_neg (fun hc => HZ.out (by omega))]
    go_enter Try.func7, Try.ntmps7
    go_wp2
    go_ret
    exact ⟨ret_int HF.out.symm, HA.out _⟩
  subst hup
  by_cases hN : N = 0
  · have HF : Hid (rightN 0 0 0 0 0 0 0 P = 0) := by show _ = _; unfold rightN; rw [if_pos rfl, if_pos (by rw [← HN.out]; omega)]
    subst hN
    go_enter Try.func7, Try.ntmps7
    go_wp2
    go_ret
    exact ⟨ret_int HF.out.symm, HA.out _⟩
  · have HF : Hid (rightN 0 0 0 0 0 0 0 P = 3) := by show _ = _; unfold rightN; rw [if_pos rfl, if_neg (by rw [← HN.out]; omega)]
    have hN2 : ¬ (N : Int) = 0 := by omega
    have b1 : ((N : Int) == 0) = false := by simpa using hN2
    have b2 : ((N : Int) != 0) = true := by simpa using hN2
    have HH := Lib.hid hN2
    have HG := Lib.hid hN
    clear hN hN2
    go_enter Try.func7, Try.ntmps7
    go_wp2
    go_ret
    exact ⟨ret_int HF.out.symm, HA.out _⟩

set_option maxRecDepth 100000 in
set_option maxHeartbeats 1000000 in
theorem right_arg (k m u g s l up : Int) (v : Value) (P : List Int) (w : World) (h : IntsAt w v P) (hl : P.length ≤ 1000000) (hk : ¬ k = 0) (hc : k < 0 ∨ 3 < k ∨ m < 0 ∨ 511 < m ∨ u < 0 ∨ 255 < u ∨ g < 0 ∨ 255 < g ∨ l < 0 ∨ 200 < l) :
    Calls Try.prog 7 #[.agg #[.int .i64 k, .int .i64 m, .int .i64 u, .int .i64 g, .int .i64 s, .int .i64 l, .int .i64 up, v]] w fun e w' => e = .returned (.int .i64 (rightN k m u g s l up P)) ∧ Below w.heap.size w w' := by
  have _ := hl
  obtain ⟨N, HN⟩ : ∃ N, Hid (N = P.length) := ⟨_, rfl⟩
  obtain ⟨p, cp, hu⟩ : ∃ p cp, v = .slice p N cp := by
    rw [HN.out]
    obtain ⟨_, ⟨h0, a0, c0, rfl⟩ | ⟨g, o, cap, rfl, hc⟩⟩ := h
    · exact ⟨a0, c0, by rw [h0]⟩
    · exact ⟨_, cap, rfl⟩
  subst hu
  have HA : Hid (∀ o : Obj, Below w.heap.size w (w.alloc o)) := fun o => (Below.refl _ _).alloc (Nat.le_refl _) o
  have H : Hid (∀ o : Obj, IntsAt (w.alloc o) (.slice p N cp) P) := fun o => RowAt.below h (HA.out o)
  rw [← HN.out] at hl
  clear h
  have HCC := Lib.hid hc
  clear hc
  have k1 : (k == 0) = false := by simpa using hk
  have k2 : (k != 0) = true := by simpa using hk
  by_cases c0 : k < 0
  · have HK := Lib.hid hk
    clear hk
    have HF : Hid (rightN k m u g s l up P = 1) := by show _ = _; unfold rightN; rw [if_neg HK.out, if_pos (by omega)]
    go_enter Try.func7, Try.ntmps7
    go_wp2
    go_ret
    exact ⟨ret_int HF.out.symm, HA.out _⟩
  by_cases c1 : 3 < k
  · have HK := Lib.hid hk
    clear hk
    have HF : Hid (rightN k m u g s l up P = 1) := by show _ = _; unfold rightN; rw [if_neg HK.out, if_pos (by omega)]
    go_enter Try.func7, Try.ntmps7
    go_wp2
    go_ret
    exact ⟨ret_int HF.out.symm, HA.out _⟩
  by_cases c2 : m < 0
  · have HK := Lib.hid hk
    clear hk
    have HF : Hid (rightN k m u g s l up P = 1) := by show _ = _; unfold rightN; rw [if_neg HK.out, if_pos (by omega)]
    go_enter Try.func7, Try.ntmps7
    go_wp2
    go_ret
    exact ⟨ret_int HF.out.symm, HA.out _⟩
  by_cases c3 : 511 < m
  · have HK := Lib.hid hk
    clear hk
    have HF : Hid (rightN k m u g s l up P = 1) := by show _ = _; unfold rightN; rw [if_neg HK.out, if_pos (by omega)]
    go_enter Try.func7, Try.ntmps7
    go_wp2
    go_ret
    exact ⟨ret_int HF.out.symm, HA.out _⟩
  by_cases c4 : u < 0
  · have HK := Lib.hid hk
    clear hk
    have HF : Hid (rightN k m u g s l up P = 1) := by show _ = _; unfold rightN; rw [if_neg HK.out, if_pos (by omega)]
    go_enter Try.func7, Try.ntmps7
    go_wp2
    go_ret
    exact ⟨ret_int HF.out.symm, HA.out _⟩
  by_cases c5 : 255 < u
  · have HK := Lib.hid hk
    clear hk
    have HF : Hid (rightN k m u g s l up P = 1) := by show _ = _; unfold rightN; rw [if_neg HK.out, if_pos (by omega)]
    go_enter Try.func7, Try.ntmps7
    go_wp2
    go_ret
    exact ⟨ret_int HF.out.symm, HA.out _⟩
  by_cases c6 : g < 0
  · have HK := Lib.hid hk
    clear hk
    have HF : Hid (rightN k m u g s l up P = 1) := by show _ = _; unfold rightN; rw [if_neg HK.out, if_pos (by omega)]
    go_enter Try.func7, Try.ntmps7
    go_wp2
    go_ret
    exact ⟨ret_int HF.out.symm, HA.out _⟩
  by_cases c7 : 255 < g
  · have HK := Lib.hid hk
    clear hk
    have HF : Hid (rightN k m u g s l up P = 1) := by show _ = _; unfold rightN; rw [if_neg HK.out, if_pos (by omega)]
    go_enter Try.func7, Try.ntmps7
    go_wp2
    go_ret
    exact ⟨ret_int HF.out.symm, HA.out _⟩
  by_cases c8 : l < 0
  · have HK := Lib.hid hk
    clear hk
    have HF : Hid (rightN k m u g s l up P = 1) := by show _ = _; unfold rightN; rw [if_neg HK.out, if_pos (by omega)]
    go_enter Try.func7, Try.ntmps7
    go_wp2
    go_ret
    exact ⟨ret_int HF.out.symm, HA.out _⟩
  by_cases c9 : 200 < l
  · have HK := Lib.hid hk
    clear hk
    have HF : Hid (rightN k m u g s l up P = 1) := by show _ = _; unfold rightN; rw [if_neg HK.out, if_pos (by omega)]
    go_enter Try.func7, Try.ntmps7
    go_wp2
    go_ret
    exact ⟨ret_int HF.out.symm, HA.out _⟩
  exact absurd HCC.out (by omega)

set_option maxRecDepth 100000 in
set_option maxHeartbeats 1000000 in
theorem right_large (k m u g s l up : Int) (v : Value) (P : List Int) (w : World) (h : IntsAt w v P) (hl : P.length ≤ 1000000) (hk : ¬ k = 0) (c0 : ¬ k < 0) (c1 : ¬ 3 < k) (c2 : ¬ m < 0) (c3 : ¬ 511 < m) (c4 : ¬ u < 0) (c5 : ¬ 255 < u) (c6 : ¬ g < 0) (c7 : ¬ 255 < g) (c8 : ¬ l < 0) (c9 : ¬ 200 < l) (hc : s < 0 ∨ 512 < s) :
    Calls Try.prog 7 #[.agg #[.int .i64 k, .int .i64 m, .int .i64 u, .int .i64 g, .int .i64 s, .int .i64 l, .int .i64 up, v]] w fun e w' => e = .returned (.int .i64 (rightN k m u g s l up P)) ∧ Below w.heap.size w w' := by
  have _ := hl
  obtain ⟨N, HN⟩ : ∃ N, Hid (N = P.length) := ⟨_, rfl⟩
  obtain ⟨p, cp, hu⟩ : ∃ p cp, v = .slice p N cp := by
    rw [HN.out]
    obtain ⟨_, ⟨h0, a0, c0, rfl⟩ | ⟨g, o, cap, rfl, hc⟩⟩ := h
    · exact ⟨a0, c0, by rw [h0]⟩
    · exact ⟨_, cap, rfl⟩
  subst hu
  have HA : Hid (∀ o : Obj, Below w.heap.size w (w.alloc o)) := fun o => (Below.refl _ _).alloc (Nat.le_refl _) o
  have H : Hid (∀ o : Obj, IntsAt (w.alloc o) (.slice p N cp) P) := fun o => RowAt.below h (HA.out o)
  rw [← HN.out] at hl
  clear h
  have HCC := Lib.hid hc
  clear hc
  have k1 : (k == 0) = false := by simpa using hk
  have k2 : (k != 0) = true := by simpa using hk
  have HK := Lib.hid hk
  clear hk
  by_cases d0 : s < 0
  · have HF : Hid (rightN k m u g s l up P = 2) := by show _ = _; unfold rightN; rw [if_neg HK.out, if_neg (by omega), if_pos (by omega)]
    go_enter Try.func7, Try.ntmps7
    go_wp2
    go_ret
    exact ⟨ret_int HF.out.symm, HA.out _⟩
  by_cases d1 : 512 < s
  · have HF : Hid (rightN k m u g s l up P = 2) := by show _ = _; unfold rightN; rw [if_neg HK.out, if_neg (by omega), if_pos (by omega)]
    go_enter Try.func7, Try.ntmps7
    go_wp2
    go_ret
    exact ⟨ret_int HF.out.symm, HA.out _⟩
  exact absurd HCC.out (by omega)

set_option maxRecDepth 100000 in
set_option maxHeartbeats 1000000 in
theorem right_dir (k m u g s l up : Int) (v : Value) (P : List Int) (w : World) (h : IntsAt w v P) (hl : P.length ≤ 1000000) (hk : ¬ k = 0) (c0 : ¬ k < 0) (c1 : ¬ 3 < k) (c2 : ¬ m < 0) (c3 : ¬ 511 < m) (c4 : ¬ u < 0) (c5 : ¬ 255 < u) (c6 : ¬ g < 0) (c7 : ¬ 255 < g) (c8 : ¬ l < 0) (c9 : ¬ 200 < l) (d0 : ¬ s < 0) (d1 : ¬ 512 < s) (hc : (k = 2 ∧ (up < 1 ∨ 32 < up)) ∨ (k ≠ 2 ∧ up ≠ 0)) :
    Calls Try.prog 7 #[.agg #[.int .i64 k, .int .i64 m, .int .i64 u, .int .i64 g, .int .i64 s, .int .i64 l, .int .i64 up, v]] w fun e w' => e = .returned (.int .i64 (rightN k m u g s l up P)) ∧ Below w.heap.size w w' := by
  have _ := hl
  obtain ⟨N, HN⟩ : ∃ N, Hid (N = P.length) := ⟨_, rfl⟩
  obtain ⟨p, cp, hu⟩ : ∃ p cp, v = .slice p N cp := by
    rw [HN.out]
    obtain ⟨_, ⟨h0, a0, c0, rfl⟩ | ⟨g, o, cap, rfl, hc⟩⟩ := h
    · exact ⟨a0, c0, by rw [h0]⟩
    · exact ⟨_, cap, rfl⟩
  subst hu
  have HA : Hid (∀ o : Obj, Below w.heap.size w (w.alloc o)) := fun o => (Below.refl _ _).alloc (Nat.le_refl _) o
  have H : Hid (∀ o : Obj, IntsAt (w.alloc o) (.slice p N cp) P) := fun o => RowAt.below h (HA.out o)
  rw [← HN.out] at hl
  clear h
  have k1 : (k == 0) = false := by simpa using hk
  have k2 : (k != 0) = true := by simpa using hk
  have HK := Lib.hid hk
  clear hk
  have HCC := Lib.hid hc
  clear hc
  by_cases hk2 : k = 2
  · subst hk2
    by_cases e0 : up < 1
    · have HF : Hid (rightN 2 m u g s l up P = 12) := by show _ = _; unfold rightN; rw [if_neg HK.out, if_neg (by omega), if_neg (by omega), if_pos (Or.inl (by omega))]
      go_enter Try.func7, Try.ntmps7
      go_wp2
      go_ret
      exact ⟨ret_int HF.out.symm, HA.out _⟩
    by_cases e1 : 32 < up
    · have HF : Hid (rightN 2 m u g s l up P = 12) := by show _ = _; unfold rightN; rw [if_neg HK.out, if_neg (by omega), if_neg (by omega), if_pos (Or.inl (by omega))]
      go_enter Try.func7, Try.ntmps7
      go_wp2
      go_ret
      exact ⟨ret_int HF.out.symm, HA.out _⟩
    exact absurd HCC.out (by omega)
  · have hq1 : (k == 2) = false := by simpa using hk2
    have hq2 : (k != 2) = true := by simpa using hk2
    have HK2 := Lib.hid hk2
    clear hk2
    by_cases hup : up = 0
    · exact absurd HCC.out (by have := HK2.out; omega)
    · have u1 : (up == 0) = false := by simpa using hup
      have u2 : (up != 0) = true := by simpa using hup
      have HUP := Lib.hid hup
      clear hup
      have HF : Hid (rightN k m u g s l up P = 12) := by show _ = _; unfold rightN; rw [if_neg HK.out, if_neg (by omega), if_neg (by omega), if_pos (Or.inr ⟨HK2.out, HUP.out⟩)]
      go_enter Try.func7, Try.ntmps7
      go_wp2
      go_ret
      exact ⟨ret_int HF.out.symm, HA.out _⟩

set_option maxRecDepth 100000 in
set_option maxHeartbeats 1000000 in
theorem right_last_dir (k m u g s l up : Int) (v : Value) (P : List Int) (w : World) (h : IntsAt w v P) (hl : P.length ≤ 1000000) (hk : ¬ k = 0) (c0 : ¬ k < 0) (c1 : ¬ 3 < k) (c2 : ¬ m < 0) (c3 : ¬ 511 < m) (c4 : ¬ u < 0) (c5 : ¬ 255 < u) (c6 : ¬ g < 0) (c7 : ¬ 255 < g) (c8 : ¬ l < 0) (c9 : ¬ 200 < l) (d0 : ¬ s < 0) (d1 : ¬ 512 < s) (hk2 : k = 2) (e0 : ¬ up < 1) (e1 : ¬ 32 < up) :
    Calls Try.prog 7 #[.agg #[.int .i64 k, .int .i64 m, .int .i64 u, .int .i64 g, .int .i64 s, .int .i64 l, .int .i64 up, v]] w fun e w' => e = .returned (.int .i64 (rightN k m u g s l up P)) ∧ Below w.heap.size w w' := by
  obtain ⟨N, HN⟩ : ∃ N, Hid (N = P.length) := ⟨_, rfl⟩
  obtain ⟨p, cp, hu⟩ : ∃ p cp, v = .slice p N cp := by
    rw [HN.out]
    obtain ⟨_, ⟨h0, a0, c0, rfl⟩ | ⟨g, o, cap, rfl, hc⟩⟩ := h
    · exact ⟨a0, c0, by rw [h0]⟩
    · exact ⟨_, cap, rfl⟩
  subst hu
  have HA : Hid (∀ o : Obj, Below w.heap.size w (w.alloc o)) := fun o => (Below.refl _ _).alloc (Nat.le_refl _) o
  have H : Hid (∀ o : Obj, IntsAt (w.alloc o) (.slice p N cp) P) := fun o => RowAt.below h (HA.out o)
  rw [← HN.out] at hl
  clear h
  subst hk2
  have k1 : ((2 : Int) == 0) = false := by simp
  have k2 : ((2 : Int) != 0) = true := by simp
  have HK := Lib.hid hk
  clear hk
  have HR : Hid (rightN 2 m u g s l up P = if rightE P ≠ 0 then rightE P else if (P.length : Int) ≠ blocksE s then 3 else 0) := by show _ = _; unfold rightN; rw [if_neg HK.out, if_neg (by omega), if_neg (by omega), if_neg (by omega)]
  obtain ⟨r, Hr⟩ : ∃ r, Hid (rightE P = r) := ⟨_, rfl⟩
  by_cases hr0 : r = 0
  · subst hr0
    obtain ⟨bk, Hbk⟩ : ∃ b, Hid (blocksE s = b) := ⟨_, rfl⟩
    have HBL : Hid (∀ W : World, Calls Try.prog 23 #[.int .i64 s] W fun e w' => e = .returned (.int .i64 bk) ∧ w' = W) := fun W => by
      have := blocks_any s W (by omega) (by omega)
      rw [Hbk.out] at this; exact this.mono fun _ _ h => ⟨h.1, h.2.symm⟩
    by_cases hbk : (N : Int) = bk
    · have HF : Hid (rightN 2 m u g s l up P = 0) := by show _ = _; rw [HR.out, if_neg (fun hc => hc Hr.out), if_neg (fun hc => hc (by rw [← HN.out, Hbk.out]; exact hbk))]
      subst hbk
      go_enter Try.func7, Try.ntmps7
      go_wp2_with fail
      refine (right_any _ P _ (H.out _) (by rw [← HN.out]; omega)).mono ?_
      rw [Hr.out]
      rintro e w' ⟨rfl, rfl⟩
      go_wp2_with fail
      go_quiet ((go_at_call 23; exact Calls.quiet_of_same (HBL.out _)))
      go_wp2
      go_ret
      exact ⟨ret_int HF.out.symm, below_drewN (HA.out _) _⟩
    · have HF : Hid (rightN 2 m u g s l up P = 3) := by show _ = _; rw [HR.out, if_neg (fun hc => hc Hr.out), if_pos (fun hc => hbk (by rw [← HN.out, Hbk.out] at hc; exact hc))]
      have n1 : ((N : Int) == bk) = false := by simpa using hbk
      have n2 : ((N : Int) != bk) = true := by simpa using hbk
      have HBK := Lib.hid hbk
      clear hbk
      go_enter Try.func7, Try.ntmps7
      go_wp2_with fail
      refine (right_any _ P _ (H.out _) (by rw [← HN.out]; omega)).mono ?_
      rw [Hr.out]
      rintro e w' ⟨rfl, rfl⟩
      go_wp2_with fail
      go_quiet ((go_at_call 23; exact Calls.quiet_of_same (HBL.out _)))
      go_wp2
      go_ret
      exact ⟨ret_int HF.out.symm, below_drewN (HA.out _) _⟩
  · have HF : Hid (rightN 2 m u g s l up P = r) := by show _ = _; rw [HR.out, if_pos (by rw [Hr.out]; exact hr0), Hr.out]
    have r1 : (r == 0) = false := by simpa using hr0
    have r2 : (r != 0) = true := by simpa using hr0
    have HR0 := Lib.hid hr0
    clear hr0
    go_enter Try.func7, Try.ntmps7
    go_wp2_with fail
    refine (right_any _ P _ (H.out _) (by rw [← HN.out]; omega)).mono ?_
    rw [Hr.out]
    rintro e w' ⟨rfl, rfl⟩
    go_wp2
    go_ret
    exact ⟨ret_int HF.out.symm, HA.out _⟩

set_option maxRecDepth 100000 in
set_option maxHeartbeats 1000000 in
theorem right_last (k m u g s l up : Int) (v : Value) (P : List Int) (w : World) (h : IntsAt w v P) (hl : P.length ≤ 1000000) (hk : ¬ k = 0) (c0 : ¬ k < 0) (c1 : ¬ 3 < k) (c2 : ¬ m < 0) (c3 : ¬ 511 < m) (c4 : ¬ u < 0) (c5 : ¬ 255 < u) (c6 : ¬ g < 0) (c7 : ¬ 255 < g) (c8 : ¬ l < 0) (c9 : ¬ 200 < l) (d0 : ¬ s < 0) (d1 : ¬ 512 < s) (hk2 : ¬ k = 2) (hup : up = 0) :
    Calls Try.prog 7 #[.agg #[.int .i64 k, .int .i64 m, .int .i64 u, .int .i64 g, .int .i64 s, .int .i64 l, .int .i64 up, v]] w fun e w' => e = .returned (.int .i64 (rightN k m u g s l up P)) ∧ Below w.heap.size w w' := by
  obtain ⟨N, HN⟩ : ∃ N, Hid (N = P.length) := ⟨_, rfl⟩
  obtain ⟨p, cp, hu⟩ : ∃ p cp, v = .slice p N cp := by
    rw [HN.out]
    obtain ⟨_, ⟨h0, a0, c0, rfl⟩ | ⟨g, o, cap, rfl, hc⟩⟩ := h
    · exact ⟨a0, c0, by rw [h0]⟩
    · exact ⟨_, cap, rfl⟩
  subst hu
  have HA : Hid (∀ o : Obj, Below w.heap.size w (w.alloc o)) := fun o => (Below.refl _ _).alloc (Nat.le_refl _) o
  have H : Hid (∀ o : Obj, IntsAt (w.alloc o) (.slice p N cp) P) := fun o => RowAt.below h (HA.out o)
  rw [← HN.out] at hl
  clear h
  subst hup
  have k1 : (k == 0) = false := by simpa using hk
  have k2 : (k != 0) = true := by simpa using hk
  have HK := Lib.hid hk
  clear hk
  have hq1 : (k == 2) = false := by simpa using hk2
  have hq2 : (k != 2) = true := by simpa using hk2
  have HK2 := Lib.hid hk2
  clear hk2
  have HR : Hid (rightN k m u g s l 0 P = if rightE P ≠ 0 then rightE P else if (P.length : Int) ≠ blocksE s then 3 else 0) := by show _ = _; unfold rightN; rw [if_neg HK.out, if_neg (by omega), if_neg (by omega), if_neg (by have := HK2.out; omega)]
  obtain ⟨r, Hr⟩ : ∃ r, Hid (rightE P = r) := ⟨_, rfl⟩
  by_cases hr0 : r = 0
  · subst hr0
    obtain ⟨bk, Hbk⟩ : ∃ b, Hid (blocksE s = b) := ⟨_, rfl⟩
    have HBL : Hid (∀ W : World, Calls Try.prog 23 #[.int .i64 s] W fun e w' => e = .returned (.int .i64 bk) ∧ w' = W) := fun W => by
      have := blocks_any s W (by omega) (by omega)
      rw [Hbk.out] at this; exact this.mono fun _ _ h => ⟨h.1, h.2.symm⟩
    by_cases hbk : (N : Int) = bk
    · have HF : Hid (rightN k m u g s l 0 P = 0) := by show _ = _; rw [HR.out, if_neg (fun hc => hc Hr.out), if_neg (fun hc => hc (by rw [← HN.out, Hbk.out]; exact hbk))]
      subst hbk
      go_enter Try.func7, Try.ntmps7
      go_wp2_with fail
      refine (right_any _ P _ (H.out _) (by rw [← HN.out]; omega)).mono ?_
      rw [Hr.out]
      rintro e w' ⟨rfl, rfl⟩
      go_wp2_with fail
      go_quiet ((go_at_call 23; exact Calls.quiet_of_same (HBL.out _)))
      go_wp2
      go_ret
      exact ⟨ret_int HF.out.symm, below_drewN (HA.out _) _⟩
    · have HF : Hid (rightN k m u g s l 0 P = 3) := by show _ = _; rw [HR.out, if_neg (fun hc => hc Hr.out), if_pos (fun hc => hbk (by rw [← HN.out, Hbk.out] at hc; exact hc))]
      have n1 : ((N : Int) == bk) = false := by simpa using hbk
      have n2 : ((N : Int) != bk) = true := by simpa using hbk
      have HBK := Lib.hid hbk
      clear hbk
      go_enter Try.func7, Try.ntmps7
      go_wp2_with fail
      refine (right_any _ P _ (H.out _) (by rw [← HN.out]; omega)).mono ?_
      rw [Hr.out]
      rintro e w' ⟨rfl, rfl⟩
      go_wp2_with fail
      go_quiet ((go_at_call 23; exact Calls.quiet_of_same (HBL.out _)))
      go_wp2
      go_ret
      exact ⟨ret_int HF.out.symm, below_drewN (HA.out _) _⟩
  · have HF : Hid (rightN k m u g s l 0 P = r) := by show _ = _; rw [HR.out, if_pos (by rw [Hr.out]; exact hr0), Hr.out]
    have r1 : (r == 0) = false := by simpa using hr0
    have r2 : (r != 0) = true := by simpa using hr0
    have HR0 := Lib.hid hr0
    clear hr0
    go_enter Try.func7, Try.ntmps7
    go_wp2_with fail
    refine (right_any _ P _ (H.out _) (by rw [← HN.out]; omega)).mono ?_
    rw [Hr.out]
    rintro e w' ⟨rfl, rfl⟩
    go_wp2
    go_ret
    exact ⟨ret_int HF.out.symm, HA.out _⟩

theorem right_node (k m u g s l up : Int) (v : Value) (P : List Int) (w : World) (h : IntsAt w v P) (hl : P.length ≤ 1000000) :
    Calls Try.prog 7 #[.agg #[.int .i64 k, .int .i64 m, .int .i64 u, .int .i64 g, .int .i64 s, .int .i64 l, .int .i64 up, v]] w fun e w' => e = .returned (.int .i64 (rightN k m u g s l up P)) ∧ Below w.heap.size w w' := by
  by_cases hk : k = 0
  · exact right_none k m u g s l up v P w h hl hk
  by_cases ha : k < 0 ∨ 3 < k ∨ m < 0 ∨ 511 < m ∨ u < 0 ∨ 255 < u ∨ g < 0 ∨ 255 < g ∨ l < 0 ∨ 200 < l
  · exact right_arg k m u g s l up v P w h hl hk ha
  by_cases hs : s < 0 ∨ 512 < s
  · exact right_large k m u g s l up v P w h hl hk (by omega) (by omega) (by omega) (by omega) (by omega) (by omega) (by omega) (by omega) (by omega) (by omega) hs
  by_cases hd : (k = 2 ∧ (up < 1 ∨ 32 < up)) ∨ (k ≠ 2 ∧ up ≠ 0)
  · exact right_dir k m u g s l up v P w h hl hk (by omega) (by omega) (by omega) (by omega) (by omega) (by omega) (by omega) (by omega) (by omega) (by omega) (by omega) (by omega) hd
  by_cases h2 : k = 2
  · exact right_last_dir k m u g s l up v P w h hl hk (by omega) (by omega) (by omega) (by omega) (by omega) (by omega) (by omega) (by omega) (by omega) (by omega) (by omega) (by omega) h2 (by omega) (by omega)
  · exact right_last k m u g s l up v P w h hl hk (by omega) (by omega) (by omega) (by omega) (by omega) (by omega) (by omega) (by omega) (by omega) (by omega) (by omega) (by omega) h2 (by omega)

end Go.Proofs.Ytablomjaaifgfaa
