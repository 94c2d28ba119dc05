/- BufferFew: a cache holds no more sectors than it has slots, each once, the one used last ahead, and what is dirty is held: the statement in full, for all inputs, no condition. -/
import Derived.Test.YthkcnihmfeilgaaBuffered
import Derived.Test.YthkcnihmfeilgaaBufSyncP
import Derived.Test.YthkcnihmfeilgaaBufMoreP
import Derived.Test.YthkcnihmfeilgaaIntsIn
import Derived.Test.YthkcnihmfeilgaaOpenUses
import Derived.Test.YthkcnihmfeilgaaOpenInts
import Derived.Test.YthkcnihmfeilgaaLawEnd
import Derived.Test.YthkcnihmfeilgaaHeldStep
import Derived.ChangeShapes
import Derived.Deep.RegionHeldLaw
namespace Go.Proofs.Ythkcnihmfeilgaa
open Go.ChangeShapes Go.WideShapes Go.ChangeAt Go.RowKit

theorem few60 {l : List (Int × ByteArray × Bool)} (h : someB l = true) : l.length ≤ 60 := by
  unfold someB at h
  simp at h
  exact h.1
def keysI (M : List Ab) : List Int := M.map fun x => (x.1 : Int)
theorem keysI_eq (M : List Ab) : keysI M = (keysA M).map fun n : Nat => (n : Int) := by
  unfold keysI keysA
  rw [List.map_map]
  rfl
theorem keysI_take {M : List Ab} {st : Dk} (h : Inv M st) (i : Nat) (hi : i < (keysI M).length) : ((keysI M).take i).contains (keysI M)[i] = false := by
  rw [← Bool.not_eq_true]
  intro hc
  rw [List.contains_iff_mem] at hc
  obtain ⟨j, hj, he⟩ := List.getElem_of_mem hc
  rw [List.getElem_take] at he
  have hj2 : j < i := by rw [List.length_take] at hj; omega
  have hnd : ((M.map fun x => x.1).map fun n : Nat => (n : Int)).Nodup := by
    have := h.nd
    rw [List.Nodup, List.pairwise_map]
    exact this.imp fun hne e => hne (by omega)
  rw [List.map_map] at hnd
  exact List.pairwise_iff_getElem.1 hnd j i (by unfold keysI at hi; simpa using Nat.lt_trans hj2 (by simpa using hi)) (by unfold keysI at hi; simpa using hi) hj2 (by simpa [keysI] using he)
theorem dirty_keys (M : List Ab) : ∀ x ∈ srtI (dirtyL M), (keysI M).contains x = true := by
  intro x hx
  have := (srtI_perm (dirtyL M)).mem_iff.1 hx
  unfold dirtyL at this
  obtain ⟨y, hy, rfl⟩ := List.mem_map.1 this
  rw [List.contains_iff_mem]
  exact List.mem_map.2 ⟨y, (List.mem_filter.1 hy).1, rfl⟩
theorem few_head (slots : Nat) (h1 : 1 ≤ slots) (l : List (Int × ByteArray × Bool)) (n : Nat) (hn : l.length = n + 1) : (keysI (foldU slots l).1)[0]? = some (pkN (l[n]'(by omega)).1 16 : Int) := by
  rw [keysI_eq, keys_all slots h1 l]
  have e : l = l.take n ++ [l[n]'(by omega)] := by
    rw [List.take_append_getElem]
    exact (List.take_of_length_le (by omega)).symm
  have e2 : lruU l = pkN (l[n]'(by omega)).1 16 :: (lruU (l.take n)).erase (pkN (l[n]'(by omega)).1 16) := by
    conv => lhs; rw [e]
    unfold lruU
    rw [List.foldl_append]
    rfl
  rw [e2]
  cases slots with
  | zero => omega
  | succ s => rfl
theorem few_le (slots : Nat) (h1 : 1 ≤ slots) (l : List (Int × ByteArray × Bool)) : (keysI (foldU slots l).1).length ≤ slots := by
  rw [keysI_eq, keys_all slots h1 l, List.length_map, List.length_take]
  omega
theorem few_take {w : World} {a : Option Addr} {n m c c' : Nat} {l : List Int} (h : IntsAt w (.slice a n c) l) (hm : m ≤ n) : IntsAt w (.slice a m c') (l.take m) := by
  obtain ⟨hl, h2⟩ := h
  have hn : n = l.length := by
    rcases h2 with ⟨h0, a0, c0, he⟩ | ⟨g, o, c0, he, _⟩
    · injection he with _ e2 _; omega
    · injection he with _ e2 _
  have hlm : (l.take m).length = m := by rw [List.length_take]; omega
  refine ⟨by simp [ints], ?_⟩
  rcases h2 with ⟨h0, a0, c0, he⟩ | ⟨g, o, c0, he, hc⟩
  · have hm0 : m = 0 := by omega
    subst hm0
    exact Or.inl ⟨by simp, a, c', rfl⟩
  · injection he with e1 e2 e3
    subst e1
    refine Or.inr ⟨g, o, c', by rw [hlm], fun j x hx => hc j x ?_⟩
    have e : ints (l.take m) = (ints l).take m := by simp [ints, List.map_take]
    rw [e, List.getElem?_take] at hx
    split at hx
    · exact hx
    · cases hx
theorem CacheAt.fewer {w : World} {c d : Value} {slots : Nat} {M : List Ab} {st : Dk} {k : Nat} {A F : Nat → Prop} (h : CacheAt w c d slots M st k A F) : ∃ gc, c = .pointer (some ⟨gc, 0, none⟩) := by
  obtain ⟨E, he, gc, lv, hc, _⟩ := h
  exact ⟨gc, hc⟩

set_option maxRecDepth 100000 in
set_option maxHeartbeats 4000000 in
theorem bufferFew_raw (slots : Int) (v : Value) (l : List (Int × ByteArray × Bool)) (w : World) (h : UsesAt w v l) (hl : l.length ≤ maxLen) (hs : ∀ x, x ∈ l → x.2.1.size ≤ maxLen) :
    Calls Try.prog 9 #[.int .i64 slots, v] w fun e w' => e = .returned (.bool true) ∧ Below w.heap.size w w' := by
  obtain ⟨N, HN⟩ : ∃ N, Hid (N = l.length) := ⟨_, rfl⟩
  obtain ⟨p, cp, hv, hp⟩ := uses_open h N HN.out
  subst hv
  have H := Lib.hid h
  have HP := Lib.hid hp
  have HL := Lib.hid hl
  have HS := Lib.hid hs
  clear h hp hl hs
  go_enter Try.func9, Try.ntmps9
  go_wp2_with fail
  refine (buffered_true _).mono ?_
  rintro e w1 ⟨rfl, hb1⟩
  go_wp2_with fail
  refine (some_any _ l _ (RowAt.below H.out hb1) HL.out HS.out).mono ?_
  obtain ⟨sb, HSB⟩ : ∃ sb, Hid (someB l = sb) := ⟨_, rfl⟩
  rw [HSB.out]
  rintro e w2 ⟨rfl, hb2⟩
  have hB2 := Below.step hb1 hb2
  clear hb1 hb2
  cases sb with
  | false =>
    go_wp2
    go_ret
    exact ⟨rfl, hB2⟩
  | true =>
    have hN60 : N ≤ 60 := by rw [HN.out]; exact few60 HSB.out
    go_wp2_with fail
    refine (pickN slots 32 _ (by omega) (by omega)).mono ?_
    obtain ⟨sl, HSL⟩ : ∃ sl, Hid (pkN slots 32 = sl) := ⟨_, rfl⟩
    have hsl : sl < 32 := by rw [← HSL.out]; exact pkN_lt slots 32 (by omega) (by omega)
    rw [HSL.out]
    rintro e w' ⟨rfl, rfl⟩
    go_wp2_with fail
    refine (used_any _ l (1 + sl) (1 + (sl : Int)) (by omega) (by omega) (by omega) _ (RowAt.below H.out hB2) (by rw [← HN.out]; omega)).mono ?_
    rintro e w6 ⟨gc, a, rfl, hown⟩
    obtain ⟨A, F, hC, hA, hF, hB6⟩ := hown
    have hinv : Inv (foldU (1 + sl) l).1 (foldU (1 + sl) l).2 := by
      have := (fold_inv (1 + sl) l l.length).1
      rw [List.take_length] at this
      exact this
    have hle := few_le (1 + sl) (by omega) l
    have HHEAD : Hid (∀ (n : Nat) (hn : l.length = n + 1), (keysI (foldU (1 + sl) l).1)[0]? = some (pkN (l[n]'(by omega)).1 16 : Int)) := fun n hn => few_head (1 + sl) (by omega) l n hn
    generalize foldU (1 + sl) l = S at *
    obtain ⟨M, st⟩ := S
    have HI := Lib.hid hinv
    have HC := Lib.hid hC
    have HB6 : Hid (Below w.heap.size w w6) := hB2.trans (hB6.mono hB2.size)
    have HLE : Hid ((keysI M).length ≤ 1 + sl) := hle
    have hz6 := HB6.out.size
    clear hC hA hF hB6 hinv hle
    go_wp2_with fail
    refine (held_any HC.out).mono ?_
    rintro e w7 ⟨v7, rfl, ho7, hb7⟩
    obtain ⟨K, HK⟩ : ∃ K, Hid (keysI M = K) := ⟨_, rfl⟩
    have ho7' : w7.ownsRow w6.heap.size 3 1 v7 K.length (ints K) := by rw [← HK.out]; exact ho7
    rw [HK.out] at HLE
    have hIK : IntsAt w7 v7 K := RowAt.of_owns ho7'
    obtain ⟨L, HLN⟩ : ∃ L, Hid (K.length = L) := ⟨_, rfl⟩
    obtain ⟨q7, cp7, hv7, hq7⟩ := owns_slice ho7'
    rw [HLN.out] at hv7 hq7
    subst hv7
    have hcp7 : L ≤ cp7 := by
      obtain ⟨_, ⟨hv, h0⟩ | ⟨g', cap', cur, hv, _, _, hh, _⟩⟩ := ho7'
      · cases hv; omega
      · cases hv; rw [← HLN.out]; exact hh
    have HIK := Lib.hid hIK
    have HQ7 := Lib.hid hq7
    have hL32 : L ≤ 32 := by rw [← HLN.out]; have := HLE.out; omega
    have HC7 := Lib.hid (HC.out.below hb7)
    have hB7 : Below w.heap.size w w7 := HB6.out.trans (hb7.mono hz6)
    have HB7 := Lib.hid hB7
    clear ho7 ho7' hb7 hq7 hIK hB7
    go_wp2
    go_loop [32] (fun i => ∃ k : Nat, k ≤ L ∧ i = .int .i64 k) (fun i => L - (intOf i).toNat)
    case atStart => exact ⟨0, Nat.zero_le _, rfl⟩
    case round =>
      obtain ⟨k, hk, rfl⟩ := hrel
      by_cases hlt : k < L
      · obtain ⟨g7, rfl, _, hc7⟩ := HQ7.out (by omega)
        have hkl : k < K.length := by rw [HLN.out]; exact hlt
        have hck := hc7 _ _ (ints_get K k hkl)
        have hlt2 : (k : Int) < (L : Int) := by omega
        have HNO : Hid ((K.take k).contains K[k] = false) := by
          have h1 : k < (keysI M).length := by rw [HK.out]; exact hkl
          have h2 := keysI_take HI.out k h1
          have h3 : (keysI M).take k = K.take k := by rw [HK.out]
          have h4 : (keysI M)[k] = K[k] := List.getElem_of_eq HK.out h1
          rw [h3, h4] at h2
          exact h2
        obtain ⟨x, HX⟩ : ∃ x, Hid (K[k] = x) := ⟨K[k], rfl⟩
        rw [HX.out] at hck HNO
        have HCT : Hid (∀ c', Calls Try.prog 39 #[.slice (some ⟨g7, 0, none⟩) k c', .int .i64 x] w7 fun e w' => e = .returned (.bool false) ∧ w7 = w') := fun c' => by
          have := containsInts_any (.slice (some ⟨g7, 0, none⟩) k c') (K.take k) x w7 (few_take HIK.out (by omega)) (by rw [List.length_take]; omega)
          rw [HNO.out] at this
          exact this
        clear hc7
        go_wp2_with fail
        refine (HCT.out _).mono ?_
        rintro e w' ⟨rfl, rfl⟩
        go_wp2
        go_round
        case rel => exact ⟨k + 1, by omega, by go_num⟩
        case measure => simp [intOf]; omega
      · have HDI := Lib.hid (dirty_any HC7.out)
        go_wp2_with fail
        refine HDI.out.mono ?_
        rintro e w8 ⟨v8, rfl, ho8, hb8⟩
        have HDK := Lib.hid (dirty_keys M)
        rw [HK.out] at HDK
        obtain ⟨D, HD⟩ : ∃ D, Hid (srtI (dirtyL M) = D) := ⟨_, rfl⟩
        rw [HD.out] at ho8 HDK
        have hDL : D.length ≤ 32 := by
          rw [← HD.out, (srtI_perm _).length_eq]
          unfold dirtyL
          rw [List.length_map]
          have h1 := List.length_filter_le (fun x : Ab => x.2.2) M
          have h2 : (keysI M).length = M.length := by unfold keysI; rw [List.length_map]
          rw [HK.out, HLN.out] at h2
          omega
        obtain ⟨DN, HDN⟩ : ∃ L, Hid (D.length = L) := ⟨_, rfl⟩
        rw [HDN.out] at ho8 hDL
        obtain ⟨q8, cp8, hv8, hq8⟩ := owns_slice ho8
        subst hv8
        have HQ8 := Lib.hid hq8
        have HIK8 : Hid (IntsAt w8 (.slice q7 L cp7) K) := RowAt.below HIK.out hb8
        have HC8 := Lib.hid (HC7.out.below hb8)
        have hB8 : Below w.heap.size w w8 := HB7.out.trans (hb8.mono HB7.out.size)
        have HB8 := Lib.hid hB8
        have HQ7' : Hid (0 < L → ∃ g, q7 = some ⟨g, 0, none⟩ ∧ ∀ (j : Nat) (x : Value), (ints K)[j]? = some x → w8.cell? ⟨g, j, none⟩ = some x) := fun h0 => by
          obtain ⟨g, h1, _, h2⟩ := HQ7.out h0
          exact ⟨g, h1, fun j x hx => (hb8.cell (p := ⟨g, j, none⟩) (block_lt_of_cell (h2 j x hx))).trans (h2 j x hx)⟩
        clear ho8 hb8 hq8 hB8
        go_wp2
        go_loop [46] (fun i => ∃ k : Nat, k ≤ DN ∧ i = .int .i64 k) (fun i => DN - (intOf i).toNat)
        case atStart => exact ⟨0, Nat.zero_le _, rfl⟩
        case round =>
          obtain ⟨j, hj, rfl⟩ := hrel
          by_cases hjt : j < DN
          · obtain ⟨g8, rfl, _, hc8⟩ := HQ8.out (by omega)
            have hjl : j < D.length := by rw [HDN.out]; exact hjt
            have hck := hc8 _ _ (ints_get D j hjl)
            have hjt2 : (j : Int) < (DN : Int) := by omega
            obtain ⟨x, HX⟩ : ∃ x, Hid (D[j] = x) := ⟨D[j], rfl⟩
            rw [HX.out] at hck
            have HCT : Hid (Calls Try.prog 39 #[.slice q7 L cp7, .int .i64 x] w8 fun e w' => e = .returned (.bool true) ∧ w8 = w') := by
              have := containsInts_any (.slice q7 L cp7) K x w8 HIK8.out (by rw [HLN.out]; omega)
              rw [HDK.out x (by rw [← HX.out]; exact List.getElem_mem hjl)] at this
              exact this
            clear hc8
            go_wp2_with fail
            refine HCT.out.mono ?_
            rintro e w' ⟨rfl, rfl⟩
            go_wp2
            go_round
            case rel => exact ⟨j + 1, by omega, by go_num⟩
            case measure => simp [intOf]; omega
          · have HL2 : Hid (L ≤ 1 + sl) := by rw [← HLN.out]; exact HLE.out
            have g1 : decide ((L : Int) ≤ 1 + (sl : Int)) = true := by rw [decide_eq_true_iff]; have := HL2.out; omega
            have HSRT : Hid (D.Pairwise fun a b => a ≤ b) := by rw [← HD.out]; exact srtI_sorted _
            have HSO : Hid (∀ (W : World) (v : Value) (base : Nat), W.ownsRow base 3 1 v D.length (ints D) → Calls Try.prog 41 #[v] W fun e w' => e = .returned (.bool true) ∧ Below W.heap.size W w') := fun W v base hv =>
              isSorted_true v D W (RowAt.of_owns hv) (by rw [HDN.out]; omega) HSRT.out
            have HDI8 := Lib.hid (dirty_any (HC8.out.below (Below.refl _ _).drew))
            rw [HD.out] at HDI8
            by_cases hN0 : N = 0
            · subst hN0
              go_wp2_with fail
              refine wp_region_held_drew (S := fun _ => True) (by kernel_rfl) (trivial) (fun hHeld => ?_)
              refine held_run (i := 0) (v := ?_) (some 55) rfl rfl (by kernel_rfl) (by kernel_rfl) (by kernel_rfl) (by rfl) (fun _ _ _ h => h) hHeld ?_ ?_
              rotate_left
              · intro wS hSw; (try dsimp only at hSw); go_simp; try with_reducible rfl
              try simp only [Act.put, List.setIfInBounds_toArray, List.set_cons_zero, List.set_cons_succ]
              refine held_run (i := 1) (v := ?_) (some 56) rfl rfl (by kernel_rfl) (by kernel_rfl) (by kernel_rfl) (by rfl) (fun _ _ _ h => h) hHeld ?_ ?_
              rotate_left
              · intro wS hSw; (try dsimp only at hSw); go_simp; try with_reducible rfl
              try simp only [Act.put, List.setIfInBounds_toArray, List.set_cons_zero, List.set_cons_succ]
              refine held_run (i := 2) (v := ?_) (some 57) rfl rfl (by kernel_rfl) (by kernel_rfl) (by kernel_rfl) (by rfl) (fun _ _ _ h => h) hHeld ?_ ?_
              rotate_left
              · intro wS hSw; (try dsimp only at hSw); go_simp; try with_reducible rfl
              try simp only [Act.put, List.setIfInBounds_toArray, List.set_cons_zero, List.set_cons_succ]
              refine held_run (i := 3) (v := ?_) (some 58) rfl rfl (by kernel_rfl) (by kernel_rfl) (by kernel_rfl) (by rfl) (fun _ _ _ h => h) hHeld ?_ ?_
              rotate_left
              · intro wS hSw; (try dsimp only at hSw); go_simp; try with_reducible rfl
              try simp only [Act.put, List.setIfInBounds_toArray, List.set_cons_zero, List.set_cons_succ]
              refine held_run (i := 4) (v := ?_) (some 59) rfl rfl (by kernel_rfl) (by kernel_rfl) (by kernel_rfl) (by rfl) (fun _ _ _ h => h) hHeld ?_ ?_
              rotate_left
              · intro wS hSw; (try dsimp only at hSw); go_simp; try with_reducible rfl
              try simp only [Act.put, List.setIfInBounds_toArray, List.set_cons_zero, List.set_cons_succ]
              refine held_run (i := 5) (v := ?_) (some 60) rfl rfl (by kernel_rfl) (by kernel_rfl) (by kernel_rfl) (by rfl) (fun _ _ _ h => h) hHeld ?_ ?_
              rotate_left
              · intro wS hSw; (try dsimp only at hSw); go_simp; try with_reducible rfl
              try simp only [Act.put, List.setIfInBounds_toArray, List.set_cons_zero, List.set_cons_succ]
              refine held_run (i := 6) (v := ?_) (some 61) rfl rfl (by kernel_rfl) (by kernel_rfl) (by kernel_rfl) (by rfl) (fun _ _ _ h => h) hHeld ?_ ?_
              rotate_left
              · intro wS hSw; (try dsimp only at hSw); go_simp; try with_reducible rfl
              try simp only [Act.put, List.setIfInBounds_toArray, List.set_cons_zero, List.set_cons_succ]
              refine held_run (i := 7) (v := ?_) (some 62) rfl rfl (by kernel_rfl) (by kernel_rfl) (by kernel_rfl) (by rfl) (fun _ _ _ h => h) hHeld ?_ ?_
              rotate_left
              · intro wS hSw; (try dsimp only at hSw); go_simp; try with_reducible rfl
              try simp only [Act.put, List.setIfInBounds_toArray, List.set_cons_zero, List.set_cons_succ]
              refine held_run (i := 8) (v := ?_) (some 63) rfl rfl (by kernel_rfl) (by kernel_rfl) (by kernel_rfl) (by rfl) (fun _ _ _ h => h) hHeld ?_ ?_
              rotate_left
              · intro wS hSw; (try dsimp only at hSw); go_simp; try with_reducible rfl
              try simp only [Act.put, List.setIfInBounds_toArray, List.set_cons_zero, List.set_cons_succ]
              refine held_skip (i := 9) (some 64) rfl rfl (by kernel_rfl) (by kernel_rfl) (by kernel_rfl) (by rfl) (fun _ _ _ h => h) hHeld ?_
              try simp only [Act.put, List.setIfInBounds_toArray, List.set_cons_zero, List.set_cons_succ]
              refine held_skip (i := 10) (some 65) rfl rfl (by kernel_rfl) (by kernel_rfl) (by kernel_rfl) (by rfl) (fun _ _ _ h => h) hHeld ?_
              try simp only [Act.put, List.setIfInBounds_toArray, List.set_cons_zero, List.set_cons_succ]
              refine held_skip (i := 11) (some 66) rfl rfl (by kernel_rfl) (by kernel_rfl) (by kernel_rfl) (by rfl) (fun _ _ _ h => h) hHeld ?_
              try simp only [Act.put, List.setIfInBounds_toArray, List.set_cons_zero, List.set_cons_succ]
              refine held_skip (i := 12) (some 67) rfl rfl (by kernel_rfl) (by kernel_rfl) (by kernel_rfl) (by rfl) (fun _ _ _ h => h) hHeld ?_
              try simp only [Act.put, List.setIfInBounds_toArray, List.set_cons_zero, List.set_cons_succ]
              refine held_skip (i := 13) (some 68) rfl rfl (by kernel_rfl) (by kernel_rfl) (by kernel_rfl) (by rfl) (fun _ _ _ h => h) hHeld ?_
              try simp only [Act.put, List.setIfInBounds_toArray, List.set_cons_zero, List.set_cons_succ]
              refine held_skip (i := 14) (some 69) rfl rfl (by kernel_rfl) (by kernel_rfl) (by kernel_rfl) (by rfl) (fun _ _ _ h => h) hHeld ?_
              try simp only [Act.put, List.setIfInBounds_toArray, List.set_cons_zero, List.set_cons_succ]
              refine held_skip (i := 15) (some 70) rfl rfl (by kernel_rfl) (by kernel_rfl) (by kernel_rfl) (by rfl) (fun _ _ _ h => h) hHeld ?_
              try simp only [Act.put, List.setIfInBounds_toArray, List.set_cons_zero, List.set_cons_succ]
              refine held_skip (i := 16) (some 71) rfl rfl (by kernel_rfl) (by kernel_rfl) (by kernel_rfl) (by rfl) (fun _ _ _ h => h) hHeld ?_
              try simp only [Act.put, List.setIfInBounds_toArray, List.set_cons_zero, List.set_cons_succ]
              refine held_skip (i := 17) (some 72) rfl rfl (by kernel_rfl) (by kernel_rfl) (by kernel_rfl) (by rfl) (fun _ _ _ h => h) hHeld ?_
              try simp only [Act.put, List.setIfInBounds_toArray, List.set_cons_zero, List.set_cons_succ]
              refine held_skip (i := 18) (some 73) rfl rfl (by kernel_rfl) (by kernel_rfl) (by kernel_rfl) (by rfl) (fun _ _ _ h => h) hHeld ?_
              try simp only [Act.put, List.setIfInBounds_toArray, List.set_cons_zero, List.set_cons_succ]
              refine held_skip (i := 19) (some 74) rfl rfl (by kernel_rfl) (by kernel_rfl) (by kernel_rfl) (by rfl) (fun _ _ _ h => h) hHeld ?_
              try simp only [Act.put, List.setIfInBounds_toArray, List.set_cons_zero, List.set_cons_succ]
              refine held_skip (i := 20) (some 75) rfl rfl (by kernel_rfl) (by kernel_rfl) (by kernel_rfl) (by rfl) (fun _ _ _ h => h) hHeld ?_
              try simp only [Act.put, List.setIfInBounds_toArray, List.set_cons_zero, List.set_cons_succ]
              refine held_skip (i := 21) (some 76) rfl rfl (by kernel_rfl) (by kernel_rfl) (by kernel_rfl) (by rfl) (fun _ _ _ h => h) hHeld ?_
              try simp only [Act.put, List.setIfInBounds_toArray, List.set_cons_zero, List.set_cons_succ]
              refine held_skip (i := 22) (some 77) rfl rfl (by kernel_rfl) (by kernel_rfl) (by kernel_rfl) (by rfl) (fun _ _ _ h => h) hHeld ?_
              try simp only [Act.put, List.setIfInBounds_toArray, List.set_cons_zero, List.set_cons_succ]
              refine held_skip (i := 23) (some 78) rfl rfl (by kernel_rfl) (by kernel_rfl) (by kernel_rfl) (by rfl) (fun _ _ _ h => h) hHeld ?_
              try simp only [Act.put, List.setIfInBounds_toArray, List.set_cons_zero, List.set_cons_succ]
              refine held_skip (i := 24) (some 79) rfl rfl (by kernel_rfl) (by kernel_rfl) (by kernel_rfl) (by rfl) (fun _ _ _ h => h) hHeld ?_
              try simp only [Act.put, List.setIfInBounds_toArray, List.set_cons_zero, List.set_cons_succ]
              refine held_skip (i := 25) (some 80) rfl rfl (by kernel_rfl) (by kernel_rfl) (by kernel_rfl) (by rfl) (fun _ _ _ h => h) hHeld ?_
              try simp only [Act.put, List.setIfInBounds_toArray, List.set_cons_zero, List.set_cons_succ]
              refine held_run (i := 26) (v := ?_) (some 81) rfl rfl (by kernel_rfl) (by kernel_rfl) (by kernel_rfl) (by rfl) (fun _ _ _ h => h) hHeld ?_ ?_
              rotate_left
              · intro wS hSw; (try dsimp only at hSw); go_simp; try with_reducible rfl
              try simp only [Act.put, List.setIfInBounds_toArray, List.set_cons_zero, List.set_cons_succ]
              refine held_run (i := 27) (v := ?_) (some 82) rfl rfl (by kernel_rfl) (by kernel_rfl) (by kernel_rfl) (by rfl) (fun _ _ _ h => h) hHeld ?_ ?_
              rotate_left
              · intro wS hSw; (try dsimp only at hSw); go_simp; try with_reducible rfl
              try simp only [Act.put, List.setIfInBounds_toArray, List.set_cons_zero, List.set_cons_succ]
              refine held_run (i := 28) (v := ?_) (some 83) rfl rfl (by kernel_rfl) (by kernel_rfl) (by kernel_rfl) (by rfl) (fun _ _ _ h => h) hHeld ?_ ?_
              rotate_left
              · intro wS hSw; (try dsimp only at hSw); go_simp; try with_reducible rfl
              try simp only [Act.put, List.setIfInBounds_toArray, List.set_cons_zero, List.set_cons_succ]
              refine held_run (i := 29) (v := ?_) (some 84) rfl rfl (by kernel_rfl) (by kernel_rfl) (by kernel_rfl) (by rfl) (fun _ _ _ h => h) hHeld ?_ ?_
              rotate_left
              · intro wS hSw; (try dsimp only at hSw); go_simp; try with_reducible rfl
              try simp only [Act.put, List.setIfInBounds_toArray, List.set_cons_zero, List.set_cons_succ]
              refine held_call (i := 30) rfl (by kernel_rfl) (by rfl) (fun K hK => ?_)
              go_simp
              go_wp2_with (go_at_call 40; (with_reducible refine HDI8.out.mono ?_); rintro e w9 ⟨v9, rfl, ho9, hb9⟩)
              have HS9 := Lib.hid (HSO.out _ _ _ ho9)
              have HB9 : Hid (Below w.heap.size w w9) := (HB8.out.drew).trans (hb9.mono HB8.out.size)
              clear ho9 hb9
              refine hK.out _ _ (trivial) (fun hHeld => ?_)
              clear hK K
              try simp only [Act.put, List.setIfInBounds_toArray, List.set_cons_zero, List.set_cons_succ]
              refine held_call (i := 31) rfl (by kernel_rfl) (by rfl) (fun K hK => ?_)
              go_simp
              go_wp2_with (go_at_call 41; (with_reducible refine HS9.out.mono ?_); rintro e w10 ⟨rfl, hb10⟩)
              have HB10 : Hid (Below w.heap.size w w10) := HB9.out.trans (hb10.mono HB9.out.size)
              clear hb10
              refine hK.out _ _ (trivial) (fun hHeld => ?_)
              clear hK K
              try simp only [Act.put, List.setIfInBounds_toArray, List.set_cons_zero, List.set_cons_succ]
              refine held_run (i := 32) (v := ?_) (some 87) rfl rfl (by kernel_rfl) (by kernel_rfl) (by kernel_rfl) (by rfl) (fun _ _ _ h => h) hHeld ?_ ?_
              rotate_left
              · intro wS hSw; (try dsimp only at hSw); go_simp; try with_reducible rfl
              try simp only [Act.put, List.setIfInBounds_toArray, List.set_cons_zero, List.set_cons_succ]
              refine held_run (i := 33) (v := ?_) (some 4) rfl rfl (by kernel_rfl) (by kernel_rfl) (by kernel_rfl) (by rfl) (fun _ _ _ h => h) hHeld ?_ ?_
              rotate_left
              · intro wS hSw; (try dsimp only at hSw); go_simp; try with_reducible rfl
              try simp only [Act.put, List.setIfInBounds_toArray, List.set_cons_zero, List.set_cons_succ]
              refine wpAnyH_done (by kernel_rfl) ?_ _
              go_wp2
              go_ret
              exact ⟨rfl, HB10.out⟩
            · have hN1 : 1 ≤ N := by omega
              obtain ⟨gl, ol, rfl, hgl, hcl⟩ := HP.out (by omega)
              have hnl : N - 1 < l.length := by rw [← HN.out]; omega
              have hcx := (hcl (N - 1) hnl).1
              have hh := HHEAD.out (N - 1) (by rw [← HN.out]; omega)
              have hh2 : K[0]? = some (pkN (l[N - 1]'hnl).1 16 : Int) := by rw [← HK.out]; exact hh
              obtain ⟨x, HX⟩ : ∃ x, Hid ((l[N - 1]'hnl).1 = x) := ⟨_, rfl⟩
              rw [HX.out] at hcx hh2
              have hL0 : 0 < L := by
                rw [← HLN.out]
                cases hK : K with
                | nil => rw [hK] at hh2; simp at hh2
                | cons y K' => simp
              obtain ⟨g7, rfl, hc7⟩ := HQ7'.out hL0
              have ck := hc7 0 (.int .i64 (pkN x 16 : Int)) (by unfold ints; rw [List.getElem?_map, hh2]; rfl)
              have cx := (HB8.out.cell (p := ⟨gl, ol + (N - 1) * 3, none⟩) hgl).trans hcx
              obtain ⟨m, HM⟩ : ∃ m, Hid (pkN x 16 = m) := ⟨_, rfl⟩
              rw [HM.out] at ck
              have HPK : Hid (∀ W : World, Calls Try.prog 14 #[.int .i64 x, .int .i64 16] W fun e w' => e = .returned (.int .i64 (m : Int)) ∧ W = w') := fun W => by
                have := pickN x 16 W (by omega) (by omega)
                rw [HM.out] at this
                exact this
              have p1 : IntKind.i64.wrap ((N : Int) - 1) = (N : Int) - 1 := IntWalk.i64_in _ (by omega)
              have p2 : ((N : Int) - 1).toNat = N - 1 := by omega
              have p3 : 0 ≤ (N : Int) - 1 := by omega
              have p4 : (N : Int) - 1 < (N : Int) := by omega
              have p5 : 1 ≤ (N : Int) := by omega
              have p6 : ((N : Int) == 0) = false := by rw [beq_eq_false_iff_ne]; omega
              have p7 : ((m : Int) == (m : Int)) = true := by simp
              have p8 : decide (0 < L) = true := by simp; omega
              have p9 : decide ((0 : Int) < (L : Int)) = true := by simp; omega
              have k1 : w8.drew.cell? ⟨g7, 0, none⟩ = some (.int .i64 (m : Int)) ∧ w8.drew.cell? ⟨gl, ol + (N - 1) * 3, none⟩ = some (.int .i64 x) := ⟨ck, cx⟩
              clear hcl hcx hh hh2 hc7 hN0 ck cx
              go_wp2_with fail
              refine wp_region_noPanic ?_
              go_region_held_law (fun w' => w'.cell? ⟨g7, 0, none⟩ = some (.int .i64 (m : Int)) ∧ w'.cell? ⟨gl, ol + (N - 1) * 3, none⟩ = some (.int .i64 x))
                (first
                  | exact k1
                  | exact k9
                  | exact k10
                  | (go_keep; done))
                (first
                  | (go_at_call 14; refine (HPK.out _).mono ?_; rintro e w' ⟨rfl, rfl⟩)
                  | (go_at_call 40; refine HDI8.out.mono ?_; rintro e w9 ⟨v9, rfl, ho9, hb9⟩
                     have HS9 := Lib.hid (HSO.out _ _ _ ho9)
                     have HB9 : Hid (Below w.heap.size w w9) := (HB8.out.drew).trans (hb9.mono HB8.out.size)
                     have k9 := And.intro ((hb9.cell (p := ⟨g7, 0, none⟩) (block_lt_of_cell k1.1)).trans k1.1) ((hb9.cell (p := ⟨gl, ol + (N - 1) * 3, none⟩) (block_lt_of_cell k1.2)).trans k1.2)
                     clear ho9 hb9)
                  | (go_at_call 41; refine HS9.out.mono ?_; rintro e w10 ⟨rfl, hb10⟩
                     have HB10 : Hid (Below w.heap.size w w10) := HB9.out.trans (hb10.mono HB9.out.size)
                     have k10 := And.intro ((hb10.cell (p := ⟨g7, 0, none⟩) (block_lt_of_cell k9.1)).trans k9.1) ((hb10.cell (p := ⟨gl, ol + (N - 1) * 3, none⟩) (block_lt_of_cell k9.2)).trans k9.2)
                     clear hb10))
              all_goals
                refine NoPanic.normal ?_
                go_wp2
                go_ret
                exact ⟨rfl, HB10.out⟩

-- CLOSING

set_option maxRecDepth 100000 in
theorem bufferFew_lifted (os : Os) (started : os.Started) (H : Type) (enc' : TypeId × Value → H) :
    ReturnsInHanded {} Try.checked os 9 .any (Rows.bufferFewSpec.pre6 enc' Try.prog Try.f9 Rows.bufferFewRow.domain false) (Rows.bufferFewSpec.post enc' Try.prog Try.f9 false true false false) := by
  refine returnsInHanded_of_change (C := Try.checked) Try.own started (by kernel_rfl) Try.func9
    (ChangeSpec.witness6 (enc := enc') (C := Try.checked) false ⟨#[], #[.int .i64 0, (.slice none 0 0)], []⟩ 8 (by kernel_rfl) (by kernel_rfl) (by kernel_rfl) (by kernel_rfl)) ?_
  intro W base args ds gs before hval0 hW hcnd _
  have hval : ∀ (j : Nat) t v, Try.f9.params[j]? = some t → args[j]? = some v → Value.okWide Try.prog W .any base t v := hval0
  have hW' := hW
  obtain ⟨p, q, hA0, hV, rfl, hfz, hnd⟩ := hW
  have hA : DataW.TrodAll enc' Try.prog W 0 (fun _ => true) true Try.f9.params.toList args.toList ds p := hA0
  rw [Try.params9] at hA hval
  obtain ⟨v0, v1, d0, d1, p0, p1, rfl, rfl, rfl, h0, h1⟩ := trodAll_two hA
  obtain ⟨rfl, rfl⟩ := trodVars_none hV
  obtain ⟨sl, rfl, rfl, rfl, wsl⟩ := open_int Try.underlying3 (hval 0 3 v0 rfl rfl) h0
  obtain ⟨l, hIl, hMl, hxl⟩ := open_usesAt (P := Try.prog) Try.underlying22 Try.underlying29 (by kernel_rfl) rfl rfl rfl (by kernel_rfl) (by kernel_rfl) (by kernel_rfl) (by kernel_rfl) (by kernel_rfl) (by kernel_rfl) (hval 1 22 v1 rfl rfl) h1
  clear hA0 hval0
  refine (bufferFew_raw sl v1 l W hIl hMl hxl).mono fun e W' ⟨he, hw⟩ => ?_
  subst he
  exact ⟨_, rfl, law_post 4 Try.laidOut (by kernel_rfl) rfl rfl Try.underlying4 hW' rfl hw⟩

theorem bufferFew_holds : Rows.BufferFewSaid :=
  OpenClaim.holds_of_wide 9 Try.f9 rfl rfl rfl rfl rfl rfl rfl ⟨rfl, rfl, rfl, rfl, rfl⟩ rfl rfl rfl rfl rfl (by kernel_rfl) Try.func9 (by kernel_rfl)
    (of_decide_eq_true (by kernel_rfl)) (by unfold Func.isWrapper; first | (rw [if_pos (by decide +kernel)]; kernel_rfl) | (rw [if_neg (by decide +kernel)]; exact ⟨rfl, rfl⟩))
    (fun os started H enc _ => bufferFew_lifted os started H enc)

end Go.Proofs.Ythkcnihmfeilgaa
