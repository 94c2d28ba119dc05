/- slices.Equal of two slices of runs that read alike; extent.At; the statement's own helpers points and run. -/
import Derived.Test.YtneknlbmiofmlaaExtPack
import Derived.Deep.QuietTactic
import Derived.BigQuiet
namespace Go.Proofs.Ytneknlbmiofmlaa
open Go.RowKit

theorem below_drewN {B : Nat} {a w : World} (h : Below B a w) (n : Nat) : Below B a (w.drewN n) := ⟨h.os, h.tape, h.output, h.size, h.block⟩

set_option maxHeartbeats 1000000 in
theorem equalExt_true (u v : Value) (l : List (Int × Int)) (w : World) (h1 : RowAt w u 2 l.length (pairs l)) (h2 : RowAt w v 2 l.length (pairs l)) (hl : l.length ≤ 1000000) :
    Calls Try.prog 39 #[u, v] w fun e w' => e = .returned (.bool true) ∧ Below w.heap.size w w' := by
  obtain ⟨N, HN⟩ : ∃ N, Hid (N = l.length) := ⟨_, rfl⟩
  rw [← HN.out] at h1 h2 hl
  obtain ⟨p, cp, hu, HP⟩ : ∃ p cp, u = .slice p N cp ∧ Hid (0 < N → ∃ g o, p = some ⟨g, o, none⟩ ∧ ∀ (j : Nat) (x : Value), (pairs l)[j]? = some x → w.cell? ⟨g, o + j, none⟩ = some x) := by
    obtain ⟨_, ⟨h0, a0, c0, rfl⟩ | ⟨g, o, cap, rfl, hc⟩⟩ := h1
    · exact ⟨a0, c0, by rw [h0], fun h => by omega⟩
    · exact ⟨_, cap, rfl, fun _ => ⟨g, o, rfl, hc⟩⟩
  obtain ⟨q, cq, hv, HQ⟩ : ∃ p cp, v = .slice p N cp ∧ Hid (0 < N → ∃ g o, p = some ⟨g, o, none⟩ ∧ ∀ (j : Nat) (x : Value), (pairs l)[j]? = some x → w.cell? ⟨g, o + j, none⟩ = some x) := by
    obtain ⟨_, ⟨h0, a0, c0, rfl⟩ | ⟨g, o, cap, rfl, hc⟩⟩ := h2
    · exact ⟨a0, c0, by rw [h0], fun h => by omega⟩
    · exact ⟨_, cap, rfl, fun _ => ⟨g, o, rfl, hc⟩⟩
  subst hu hv
  clear h1 h2
  go_enter Try.func39, Try.ntmps39
  go_wp2
  go_loopw [13] (fun i wr => ∃ k : Nat, k ≤ N ∧ i = .int .i64 k ∧ Below w.heap.size w wr) (fun i _ => N - (intOf i).toNat)
  case atStart => exact ⟨0, Nat.zero_le _, rfl, Below.refl _ _⟩
  case round =>
    obtain ⟨k, hk, rfl, HB⟩ := hrel
    by_cases hlt : k < N
    · obtain ⟨g, o, rfl, hc⟩ := HP.out (by omega)
      obtain ⟨g', o', rfl, hc'⟩ := HQ.out (by omega)
      have hkl : k < l.length := by rw [← HN.out]; exact hlt
      have hp := pairs_get l k hkl
      obtain ⟨a, ha⟩ : ∃ a, Hid (a = l[k].1) := ⟨l[k].1, rfl⟩
      obtain ⟨b, hb⟩ : ∃ b, Hid (b = l[k].2) := ⟨l[k].2, rfl⟩
      rw [← ha.out, ← hb.out] at hp
      have keep : ∀ {x : Addr} {y : Value}, w.cell? x = some y → wr.cell? x = some y := fun h => (HB.cell (block_lt_of_cell h)).trans h
      have c1 := keep (hc _ _ hp.1)
      have c2 := keep (hc _ _ hp.2)
      have d1 := keep (hc' _ _ hp.1)
      have d2 := keep (hc' _ _ hp.2)
      have HC := Lib.hid hc
      have HC' := Lib.hid hc'
      clear hc hc' hp keep
      rw [← Nat.add_assoc] at c2 d2
      have hlt2 : (k : Int) < (N : Int) := by omega
      go_wp2
      go_quiet (fail)
      go_wp2
      go_roundw
      case rel => exact ⟨k + 1, by omega, by go_num, below_drewN HB _⟩
      case measure => simp [intOf]; omega
    · go_wp2
      go_ret
      exact ⟨rfl, HB⟩

/-- The sector of a block. -/
def atE : List (Int × Int) → Int → Int
  | [], _ => 0
  | x :: r, b => if b < x.2 then (if x.1 = 0 then 0 else x.1 + b) else atE r (b - x.2)

set_option maxHeartbeats 400000 in
theorem at_neg (v : Value) (b : Int) (w : World) (hb : b < 0) :
    Calls Try.prog 17 #[v, .int .i64 b] w fun e w' => e = .returned (.int .i64 0) ∧ Below w.heap.size w w' := by
  go_enter Try.func17, Try.ntmps17
  go_wp2
  go_ret
  exact ⟨rfl, Below.refl _ _⟩

set_option maxHeartbeats 1000000 in
theorem at_any (v : Value) (l : List (Int × Int)) (b : Int) (w : World) (h : RowAt w v 2 l.length (pairs l)) (hl : l.length ≤ 1000000) (hb : 0 ≤ b) (hb1 : b ≤ 1000000) (hx : ∀ x, x ∈ l → 0 ≤ x.1 ∧ x.1 ≤ 255 ∧ 0 ≤ x.2 ∧ x.2 ≤ 8) :
    Calls Try.prog 17 #[v, .int .i64 b] w fun e w' => e = .returned (.int .i64 (atE l b)) ∧ Below w.heap.size w w' := by
  obtain ⟨N, HN⟩ : ∃ N, Hid (N = l.length) := ⟨_, rfl⟩
  rw [← HN.out] at h hl
  obtain ⟨p, cp, hu, HP⟩ : ∃ p cp, v = .slice p N cp ∧ Hid (0 < N → ∃ g o, p = some ⟨g, o, none⟩ ∧ ∀ (j : Nat) (x : Value), (pairs l)[j]? = some x → w.cell? ⟨g, o + j, none⟩ = some x) := by
    obtain ⟨_, ⟨h0, a0, c0, rfl⟩ | ⟨g, o, cap, rfl, hc⟩⟩ := h
    · exact ⟨a0, c0, by rw [h0], fun h => by omega⟩
    · exact ⟨_, cap, rfl, fun _ => ⟨g, o, rfl, hc⟩⟩
  subst hu
  have HX := Lib.hid hx
  clear h hx
  go_enter Try.func17, Try.ntmps17
  go_wp2
  go_loopw [1, 11] (fun c i wr => ∃ (k : Nat) (d : Int), k ≤ N ∧ i = .int .i64 k ∧ c = .int .i64 d ∧ 0 ≤ d ∧ d ≤ 1000000 ∧ Hid (atE (l.drop k) d = atE l b) ∧ Below w.heap.size w wr) (fun _ i _ => N - (intOf i).toNat)
  case atStart => exact ⟨0, b, Nat.zero_le _, rfl, rfl, hb, hb1, rfl, Below.refl _ _⟩
  case round =>
    obtain ⟨k, d, hk, rfl, rfl, hd0, hd1, HD, HB⟩ := hrel
    by_cases hlt : k < N
    · obtain ⟨g, o, rfl, hc⟩ := HP.out (by omega)
      have hkl : k < l.length := by rw [← HN.out]; exact hlt
      have hp := pairs_get l k hkl
      obtain ⟨a, ha⟩ : ∃ a, Hid (a = l[k].1) := ⟨l[k].1, rfl⟩
      obtain ⟨n, hn⟩ : ∃ n, Hid (n = l[k].2) := ⟨l[k].2, rfl⟩
      have hr := HX.out _ (List.getElem_mem hkl)
      rw [← ha.out, ← hn.out] at hp hr
      obtain ⟨ha0, ha1, hn0, hn1⟩ := hr
      have keep : ∀ {x : Addr} {y : Value}, w.cell? x = some y → wr.cell? x = some y := fun h => (HB.cell (block_lt_of_cell h)).trans h
      have c1 := keep (hc _ _ hp.1)
      have c2 := keep (hc _ _ hp.2)
      have HC := Lib.hid hc
      clear hc hp keep
      rw [← Nat.add_assoc] at c2
      have hlt2 : (k : Int) < (N : Int) := by omega
      have HS : Hid (atE l b = if d < n then (if a = 0 then 0 else a + d) else atE (l.drop (k + 1)) (d - n)) := by
        rw [← HD.out, List.drop_eq_getElem_cons hkl, atE, ← ha.out, ← hn.out]; exact rfl
      have HB4 : Below w.heap.size w (wr.alloc (Obj.cells #[Value.int IntKind.i64 a, Value.int IntKind.i64 n] 35)) := HB.alloc HB.size _
      by_cases hdn : d < n
      · by_cases ha2 : a = 0
        · have hab : (a == 0) = true := by simpa using ha2
          have HF : Hid (atE l b = 0) := by rw [HS.out, if_pos hdn, if_pos ha2]; exact rfl
          clear ha2
          go_wp2
          go_ret
          exact ⟨ret_int HF.out.symm, HB4⟩
        · have hab : (a == 0) = false := by simpa using ha2
          have HF : Hid (atE l b = a + d) := by rw [HS.out, if_pos hdn, if_neg ha2]; exact rfl
          clear ha2
          go_wp2
          go_ret
          exact ⟨ret_int HF.out.symm, HB4⟩
      · have HF : Hid (atE (l.drop (k + 1)) (d - n) = atE l b) := by rw [HS.out, if_neg hdn]; exact rfl
        go_wp2
        go_roundw
        case rel => exact ⟨k + 1, d - n, by omega, by go_num, rfl, by omega, by omega, HF, HB4⟩
        case measure => simp [intOf]; omega
    · have HF : Hid (atE l b = 0) := by
        rw [← HD.out, List.drop_of_length_le (by rw [← HN.out]; omega)]; exact rfl
      go_wp2
      go_ret
      exact ⟨ret_int HF.out.symm, HB⟩

end Go.Proofs.Ytneknlbmiofmlaa
