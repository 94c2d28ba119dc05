/- First and List of package bits. -/
import Derived.Test.YtnmfbhiooccgfaaBits2
namespace Go.Proofs.Ytnmfbhiooccgfaa
open Go.RowKit

/-- What First answers: the first that is not in the set from lo on, below hi; or that there is none. -/
def FirstRes (s : Nat → Bool) (lo hi : Nat) (e : Ending) : Prop :=
  (∃ n : Nat, lo ≤ n ∧ n < hi ∧ s n = false ∧ (∀ m, lo ≤ m → m < n → s m = true) ∧ e = .returned (.tuple #[.int .i64 n, .int .i64 0])) ∨
  ((∀ m, lo ≤ m → m < hi → s m = true) ∧ e = .returned (.tuple #[.int .i64 0, .int .i64 6]))

def Upto (s : Nat → Bool) (lo k : Nat) : Prop := ∀ m, lo ≤ m → m < k → m < 256 → s m = true

set_option maxRecDepth 100000 in
set_option maxHeartbeats 1000000 in
theorem first_raw (s : Nat → Bool) (A : Array Value) (HA : Hid (A = enc s)) (lo be : Nat) (w : World) (h0 : lo ≤ 1000) (h1 : be ≤ 1000) :
    Calls Try.prog 17 #[.agg A, .int .i64 lo, .int .i64 be] w fun e w' => FirstRes s lo (min be 256) e ∧ Below w.heap.size w w' := by
  have HS : Hid (A.size = 32) := by rw [HA.out]; exact enc_size s
  rcases Nat.eq_zero_or_pos lo with hl | hl <;> by_cases hb : be ≤ 256
  all_goals
    obtain ⟨hi, Hhi, hh0, hh1⟩ : ∃ hi : Nat, Hid (min be 256 = hi) ∧ hi ≤ 256 ∧ (hi ≤ be ∧ (be ≤ hi ∨ 256 ≤ hi)) := ⟨_, rfl, by omega, by omega, by omega⟩
    obtain ⟨hh1, hh2⟩ := hh1
    first | (have hbI : ¬ ((256 : Int) < (be : Int)) := by omega) | (have hbI : (256 : Int) < (be : Int) := by omega)
    have HL := Lib.hid hl
    first | (have hz : ¬ 0 < lo := by omega) | (have hz : 0 < lo := hl)
    clear hl
    go_enter Try.func17, Try.ntmps17
    go_wp2
    go_loopw [8] (fun i wr => ∃ k : Nat, lo ≤ k ∧ k ≤ 1010 ∧ i = .int .i64 k ∧ Below w.heap.size w wr ∧ Hid (wr.heap[w.heap.size]? = some (.cells A 23 (0, 0))) ∧ Hid (Upto s lo k)) (fun i _ => 1020 - (intOf i).toNat)
    case atStart =>
      refine ⟨lo, by omega, by omega, by first | rfl | (rw [HL.out]; rfl), (Below.refl _ _).alloc (Nat.le_refl _) _, heap_alloc_new _ _, fun m hm hm' => by omega⟩
    case round =>
      obtain ⟨k, hk0, hk1, rfl, HB, H0, HU⟩ := hrel
      by_cases hlt : k < hi
      · have c0 : wr.cell? ⟨w.heap.size, k / 8, none⟩ = some (.int .u8 (byteAt s (k / 8))) := by rw [cell_of_row _ _ _ _ _ _ H0.out, HA.out, enc_get _ _ (by omega)]
        have hbl := byteAt_lt s (k / 8)
        have hlt1 : k < be := by omega
        have hlt2 : k < 256 := by omega
        by_cases hm : (k : Int) % 8 = 0 ∧ byteAt s (k / 8) = 255
        · obtain ⟨hm1, hm2⟩ := hm
          have hm1' : ((k : Int) % 8 == 0) = true := by simpa using hm1
          have hm2' : ((byteAt s (k / 8) : Int) == 255) = true := by rw [beq_iff_eq]; omega
          have HF : Hid (Upto s lo (k + 8)) := fun m h1 h2 h3 => by
            by_cases h4 : m < k
            · exact HU.out m h1 h4 h3
            · have := byteAt_full hm2 (m - k) (by omega)
              rwa [show 8 * (k / 8) + (m - k) = m by omega] at this
          clear hm1 hm2
          go_wp2
          go_roundw
          case rel => exact ⟨k + 8, by omega, by omega, by go_num, HB, H0, HF⟩
          case measure => simp [intOf]; omega
        · have hgo : ((k : Int) % 8 == 0) = false ∨ (((k : Int) % 8 == 0) = true ∧ ((byteAt s (k / 8) : Int) == 255) = false) := by
            by_cases h1 : (k : Int) % 8 = 0
            · right
              refine ⟨by simpa using h1, ?_⟩
              rw [beq_eq_false_iff_ne]
              intro h2
              exact hm ⟨h1, by omega⟩
            · left; simpa using h1
          clear hm
          have HC : ∀ W : World, Calls Try.prog 16 #[.agg A, .int .i64 k] W fun e w' => e = .returned (.bool (s k)) ∧ Below W.heap.size W w' := fun W => by
            rw [HA.out]; exact has_in s k W (by omega) (by omega)
          have HH := Lib.hid HC
          clear HC
          rcases hgo with hg | ⟨hg, hg2⟩ <;> cases hs : s k
          all_goals
            have HSk := Lib.hid hs
            clear hs
            go_wp2_with (first
              | (refine wpList_load_row rfl 23 (.tmp 3) rfl w.heap.size rfl 23 A (0, 0) _ H0.out setT rfl (by rw [HS.out]; exact setI) ?_)
              | (go_at_call 16; refine (HH.out _).mono ?_; rw [HSk.out]; rintro e w' ⟨rfl, hb1⟩))
            first
              | (go_ret2
                 refine ⟨Or.inl ⟨k, by omega, ?_, HSk.out, fun m h1 h2 => HU.out m (by omega) h2 (by omega), rfl⟩, HB.trans (hb1.mono HB.size)⟩
                 rw [Hhi.out]; exact hlt)
              | (go_roundw
                 case rel =>
                   refine ⟨k + 1, by omega, by omega, by go_num, HB.trans (hb1.mono HB.size), (hb1.block _ (Array.getElem?_eq_some_iff.1 H0.out).1).trans H0.out, fun m h1 h2 h3 => ?_⟩
                   by_cases h4 : m = k
                   · rw [h4]; exact HSk.out
                   · exact HU.out m h1 (by omega) h3
                 case measure => simp [intOf]; omega)
      · have hge : ¬ (k < be ∧ k < 256) := by omega
        have hge1 : 256 < be → ¬ k < 256 := by omega
        have hge2 : be ≤ 256 → ¬ k < be := by omega
        first
          | (have hge3 : ¬ k < be := hge2 hb)
          | (have hge3 : ¬ k < 256 := hge1 (by omega))
        clear hge hge1 hge2
        go_wp2
        go_ret2
        refine ⟨Or.inr ⟨fun m h1 h2 => HU.out m (by omega) ?_ ?_, rfl⟩, HB⟩
        · rw [Hhi.out] at h2; omega
        · rw [Hhi.out] at h2; omega

theorem first_some (s : Nat → Bool) (lo be : Int) (n : Nat) (w : World) (h0 : 0 ≤ lo) (h1 : lo ≤ 1000) (h2 : 0 ≤ be) (h3 : be ≤ 1000) (g0 : lo ≤ n) (g1 : (n : Int) < be) (g2 : n < 256) (g3 : s n = false) (g4 : ∀ m : Nat, lo ≤ m → m < n → s m = true) :
    Calls Try.prog 17 #[.agg (enc s), .int .i64 lo, .int .i64 be] w fun e w' => e = .returned (.tuple #[.int .i64 n, .int .i64 0]) ∧ Below w.heap.size w w' := by
  obtain ⟨a, rfl⟩ := Int.eq_ofNat_of_zero_le h0
  obtain ⟨b, rfl⟩ := Int.eq_ofNat_of_zero_le h2
  refine (first_raw s _ rfl a b w (by omega) (by omega)).mono fun e w' ⟨he, hb⟩ => ⟨?_, hb⟩
  rcases he with ⟨k, k0, k1, k2, k3, rfl⟩ | ⟨hall, _⟩
  · obtain rfl : k = n := by
      rcases Nat.lt_trichotomy k n with h | h | h
      · have := g4 k (by omega) h; rw [k2] at this; cases this
      · exact h
      · have := k3 n (by omega) h; rw [g3] at this; cases this
    rfl
  · have := hall n (by omega) (by omega); rw [g3] at this; cases this
theorem first_none (s : Nat → Bool) (lo be : Int) (w : World) (h0 : 0 ≤ lo) (h1 : lo ≤ 1000) (h2 : 0 ≤ be) (h3 : be ≤ 1000) (g4 : ∀ m : Nat, lo ≤ m → (m : Int) < be → m < 256 → s m = true) :
    Calls Try.prog 17 #[.agg (enc s), .int .i64 lo, .int .i64 be] w fun e w' => e = .returned (.tuple #[.int .i64 0, .int .i64 6]) ∧ Below w.heap.size w w' := by
  obtain ⟨a, rfl⟩ := Int.eq_ofNat_of_zero_le h0
  obtain ⟨b, rfl⟩ := Int.eq_ofNat_of_zero_le h2
  refine (first_raw s _ rfl a b w (by omega) (by omega)).mono fun e w' ⟨he, hb⟩ => ⟨?_, hb⟩
  rcases he with ⟨k, k0, k1, k2, k3, rfl⟩ | ⟨_, rfl⟩
  · have := g4 k (by omega) (by omega) (by omega); rw [k2] at this; cases this
  · rfl
/-- Either there is a first one, or there is none. -/
theorem first_or (s : Nat → Bool) (lo hi : Nat) : (∃ n, lo ≤ n ∧ n < hi ∧ s n = false ∧ ∀ m, lo ≤ m → m < n → s m = true) ∨ (∀ m, lo ≤ m → m < hi → s m = true) := by
  have key : ∀ d, ∀ a, a + d = hi → lo ≤ a → (∀ m, lo ≤ m → m < a → s m = true) → (∃ n, lo ≤ n ∧ n < hi ∧ s n = false ∧ ∀ m, lo ≤ m → m < n → s m = true) ∨ (∀ m, lo ≤ m → m < hi → s m = true) := by
    intro d
    induction d with
    | zero => intro a h1 _ h3; right; intro m h4 h5; exact h3 m h4 (by omega)
    | succ d ih =>
      intro a h1 h2 h3
      cases hs : s a with
      | false => left; exact ⟨a, h2, by omega, hs, h3⟩
      | true =>
        refine ih (a + 1) (by omega) (by omega) fun m h4 h5 => ?_
        by_cases h6 : m = a
        · rw [h6]; exact hs
        · exact h3 m h4 (by omega)
  by_cases h : lo ≤ hi
  · exact key (hi - lo) lo (by omega) (Nat.le_refl _) fun m h1 h2 => by omega
  · right; intro m h1 h2; omega

end Go.Proofs.Ytnmfbhiooccgfaa
