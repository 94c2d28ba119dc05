/- slices.Index, slices.Contains, slices.IsSorted of ints. -/
import Derived.Test.YtablomjaaifgfaaU8
import Derived.Test.YtablomjaaifgfaaProg
import Derived.LoopTactic
import Derived.Lib.Hide
import Derived.Test.YtablomjaaifgfaaLaws
import Derived.WalkKit
import Derived.IntWalk
import Derived.BigQuiet
import Derived.Deep.QuietTactic
namespace Go.Proofs.Ytablomjaaifgfaa
open Go.RowKit

theorem below_di {B : Nat} {a w : World} (h : Below B a w) (n : Nat) : Below B a (w.drewN n) := ⟨h.os, h.tape, h.output, h.size, h.block⟩
theorem ints_open {w : World} {v : Value} {l : List Int} (h : IntsAt w v l) : ∃ p cp, v = .slice p l.length cp ∧ Hid (0 < l.length → ∃ g o, p = some ⟨g, o, none⟩ ∧ ∀ (j : Nat) (x : Value), (ints l)[j]? = some x → w.cell? ⟨g, o + j, none⟩ = some x) := by
  obtain ⟨_, ⟨h0, a0, c0, rfl⟩ | ⟨g, o, cap, rfl, hc⟩⟩ := h
  · exact ⟨a0, c0, by rw [h0], fun h => by omega⟩
  · exact ⟨_, cap, rfl, fun _ => ⟨g, o, rfl, hc⟩⟩

/-- Where an int stands in a list first; -1: nowhere. -/
def idxL (l : List Int) (x : Int) : Int := match l.findIdx? (fun y => y == x) with | some k => (k : Int) | none => -1
set_option maxRecDepth 100000 in
set_option maxHeartbeats 1000000 in
theorem indexInts_any (v : Value) (l : List Int) (x : Int) (w : World) (h : IntsAt w v l) (hl : l.length ≤ 1000000) :
    Calls Try.prog 27 #[v, .int .i64 x] w fun e w' => e = .returned (.int .i64 (idxL l x)) ∧ w = w' := by
  obtain ⟨p, cp, rfl, HP⟩ := ints_open h
  obtain ⟨N, HN⟩ : ∃ N, Hid (l.length = N) := ⟨_, rfl⟩
  rw [HN.out] at hl HP
  rw [HN.out]
  clear h
  go_enter Try.func27, Try.ntmps27
  go_wp2
  go_loop [8] (fun i => ∃ k : Nat, k ≤ N ∧ i = .int .i64 k ∧ Hid (∀ j (hj : j < l.length), j < k → l[j] ≠ x)) (fun i => N - (intOf i).toNat)
  case atStart => exact ⟨0, Nat.zero_le _, rfl, fun j _ h => absurd h (Nat.not_lt_zero j)⟩
  case round =>
    obtain ⟨k, hk, rfl, HE⟩ := hrel
    by_cases hlt : k < N
    · obtain ⟨g, o, rfl, hc⟩ := HP.out (by omega)
      have hkl : k < l.length := by rw [HN.out]; exact hlt
      have hp := ints_get l k hkl
      obtain ⟨y, Hy⟩ : ∃ y, Hid (l[k] = y) := ⟨l[k], rfl⟩
      rw [Hy.out] at hp
      have c1 := hc _ _ hp
      have hlt2 : (k : Int) < (N : Int) := by omega
      clear hc hp
      by_cases hxy : x = y
      · have HF : Hid (idxL l x = (k : Int)) := by
          show _ = _
          unfold idxL
          have : l.findIdx? (fun y => y == x) = some k := by
            rw [List.findIdx?_eq_some_iff_getElem]
            exact ⟨hkl, by rw [Hy.out, hxy]; simp, fun j hj => by simpa using HE.out j (by omega) hj⟩
          rw [this]
        subst hxy
        go_wp2
        go_ret
        rw [HF.out]
        exact ⟨rfl, rfl⟩
      · have HE2 : Hid (∀ j (hj : j < l.length), j < k + 1 → l[j] ≠ x) := fun j hj h => by
          by_cases e : j = k
          · subst e; rw [Hy.out]; exact fun e => hxy e.symm
          · exact HE.out j hj (by omega)
        have b1 : (x == y) = false := by simpa using hxy
        clear hxy
        go_wp2
        go_round
        case rel => exact ⟨k + 1, by omega, by go_num, HE2⟩
        case measure => simp [intOf]; omega
    · have HF : Hid (idxL l x = -1) := by
        show _ = _
        unfold idxL
        have : l.findIdx? (fun y => y == x) = none := by
          rw [List.findIdx?_eq_none_iff]
          intro y hy
          obtain ⟨j, hj, rfl⟩ := List.getElem_of_mem hy
          simpa using HE.out j hj (by rw [HN.out] at hj; omega)
        rw [this]
      go_wp2
      go_ret
      rw [HF.out]
      exact ⟨rfl, rfl⟩
theorem idxL_contains (l : List Int) (x : Int) : decide (0 ≤ idxL l x) = l.contains x := by
  unfold idxL
  cases h : l.findIdx? fun y => y == x with
  | none =>
    rw [List.findIdx?_eq_none_iff] at h
    rw [show decide (0 ≤ (-1 : Int)) = false from rfl]
    symm
    rw [← Bool.not_eq_true]
    intro hc
    have := h x (by simpa using hc)
    simp at this
  | some k =>
    rw [List.findIdx?_eq_some_iff_getElem] at h
    obtain ⟨h1, h2, _⟩ := h
    rw [decide_eq_true (show (0 : Int) ≤ (k : Int) by omega)]
    symm
    simp only [List.contains_iff_mem, beq_iff_eq] at *
    rw [← h2]
    exact List.getElem_mem h1
set_option maxRecDepth 100000 in
theorem containsInts_any (v : Value) (l : List Int) (x : Int) (w : World) (h : IntsAt w v l) (hl : l.length ≤ 1000000) :
    Calls Try.prog 15 #[v, .int .i64 x] w fun e w' => e = .returned (.bool (l.contains x)) ∧ w = w' := by
  have HX := Lib.hid (indexInts_any v l x w h hl)
  obtain ⟨p, cp, rfl, _⟩ := ints_open h
  have HC := Lib.hid (idxL_contains l x)
  have hb : -1 ≤ idxL l x ∧ idxL l x ≤ 1000000 := by
    unfold idxL
    cases h2 : l.findIdx? fun y => y == x with
    | none => exact ⟨by simp, by simp⟩
    | some k =>
      rw [List.findIdx?_eq_some_iff_getElem] at h2
      obtain ⟨h1, _⟩ := h2
      exact ⟨by show (-1 : Int) ≤ (k : Int); omega, by show (k : Int) ≤ 1000000; omega⟩
  obtain ⟨hb1, hb2⟩ := hb
  clear h hl
  generalize idxL l x = q at *
  go_enter Try.func15, Try.ntmps15
  go_wp2_with fail
  refine HX.out.mono ?_
  rintro e w' ⟨rfl, rfl⟩
  go_wp2
  go_ret
  rw [← HC.out]
  exact ⟨rfl, rfl⟩
set_option maxRecDepth 100000 in
theorem isNaN_int (x : Int) (w : World) : Calls Try.prog 40 #[.int .i64 x] w fun e w' => e = .returned (.bool false) ∧ w = w' := by
  go_enter Try.func40, Try.ntmps40
  go_wp2
  go_ret
  exact ⟨by simp, rfl⟩
set_option maxRecDepth 100000 in
theorem less_int (x y : Int) (b : Bool) (hb : decide (x < y) = b) (w : World) : Calls Try.prog 29 #[.int .i64 x, .int .i64 y] w fun e w' => e = .returned (.bool b) ∧ w = w' := by
  go_enter Try.func29, Try.ntmps29
  go_wp2_with (go_at_call 40; refine (isNaN_int _ _).mono ?_; rintro e w' ⟨rfl, rfl⟩)
  go_ret
  rw [← hb]
  exact ⟨rfl, rfl⟩
/-- Rising, from the k-th on. -/
def risesFrom (l : List Int) (k : Nat) : Prop := ∀ j (hj : j < l.length), k < j → l[j - 1]'(by omega) ≤ l[j]
set_option maxRecDepth 100000 in
set_option maxHeartbeats 1000000 in
theorem isSorted_true (v : Value) (l : List Int) (w : World) (h : IntsAt w v l) (hl : l.length ≤ 1000000) (hs : l.Pairwise fun a b => a ≤ b) :
    Calls Try.prog 21 #[v] w fun e w' => e = .returned (.bool true) ∧ Below w.heap.size w w' := by
  obtain ⟨p, cp, rfl, HP⟩ := ints_open h
  obtain ⟨N, HN⟩ : ∃ N, Hid (l.length = N) := ⟨_, rfl⟩
  have HS := Lib.hid hs
  rw [HN.out] at hl HP
  rw [HN.out]
  clear h hs
  have p0 : IntKind.i64.wrap ((N : Int) - 1) = (N : Int) - 1 := IntWalk.i64_in _ (by omega)
  go_enter Try.func21, Try.ntmps21
  go_wp2
  clear p0
  go_loopw [3] (fun i wr => ∃ k : Int, -1 ≤ k ∧ k < N ∧ i = .int .i64 k ∧ Below w.heap.size w wr) (fun i _ => (intOf i + 1).toNat)
  case atStart => exact ⟨(N : Int) - 1, by omega, by omega, rfl, Below.refl _ _⟩
  case round =>
    obtain ⟨k0, hk1, hk2, rfl, HB⟩ := hrel
    by_cases hlt : 0 < k0
    · obtain ⟨k, rfl⟩ := Int.eq_ofNat_of_zero_le (show 0 ≤ k0 by omega)
      obtain ⟨g, o, rfl, hc⟩ := HP.out (by omega)
      have hkl : k < l.length := by rw [HN.out]; omega
      have hp := ints_get l k hkl
      have hq := ints_get l (k - 1) (by omega)
      have hle : l[k - 1]'(by omega) ≤ l[k] := List.pairwise_iff_getElem.1 HS.out (k - 1) k (by omega) hkl (by omega)
      obtain ⟨y, Hy⟩ : ∃ y, Hid (l[k] = y) := ⟨l[k], rfl⟩
      obtain ⟨z, Hz⟩ : ∃ z, Hid (l[k - 1]'(by omega) = z) := ⟨l[k - 1]'(by omega), rfl⟩
      rw [Hy.out] at hp hle
      rw [Hz.out] at hq hle
      have keep : ∀ {x : Addr} {y : Value}, w.cell? x = some y → wr.cell? x = some y := fun h => (HB.cell (block_lt_of_cell h)).trans h
      have c1 := keep (hc _ _ hp)
      have c2 := keep (hc _ _ hq)
      have hd : decide (y < z) = false := by rw [decide_eq_false_iff_not]; omega
      clear hc hp hq keep
      have q0 : IntKind.i64.wrap ((k : Int) - 1) = (k : Int) - 1 := IntWalk.i64_in _ (by omega)
      have q1 : ((k : Int) - 1).toNat = k - 1 := by omega
      have q2 : 0 ≤ (k : Int) - 1 := by omega
      have q3 : (k : Int) - 1 < (N : Int) := by omega
      have q4 : 1 ≤ (k : Int) := by omega
      clear hle
      go_wp2
      go_quiet ((go_at_call 29; exact Calls.quiet_of_same ((less_int y z false hd _).mono fun e w' h => ⟨h.1, h.2.symm⟩)))
      go_wp2
      go_roundw
      case rel => exact ⟨(k : Int) - 1, by omega, by omega, rfl, below_di HB _⟩
      case measure => simp [intOf]
    · go_wp2
      go_ret
      exact ⟨rfl, HB⟩

end Go.Proofs.Ytablomjaaifgfaa
