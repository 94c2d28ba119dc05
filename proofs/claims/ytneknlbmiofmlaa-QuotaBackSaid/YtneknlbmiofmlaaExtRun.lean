/- The statements' own helpers: points, and the fact run. -/
import Derived.Test.YtneknlbmiofmlaaExtEq
import Derived.Test.YtneknlbmiofmlaaPick
namespace Go.Proofs.Ytneknlbmiofmlaa
open Go.RowKit

theorem intInfo : (Try.prog.info? 3).map (fun i => (i.zero, i.size, i.bytes)) = some (some (.int .i64 0), 1, 8) := by kernel_rfl
theorem intsT : Try.prog.underlying 22 = some (.slice 3) := by kernel_rfl

/-- Eight at most, each a sector. -/
def ptsE (l : List Int) : List Int := (l.take 8).map fun p => pk p 256
theorem ptsE_snoc (l : List Int) (k : Nat) (hk : k < l.length) (h8 : k < 8) : ptsE (l.take (k + 1)) = ptsE (l.take k) ++ [pk l[k] 256] := by
  unfold ptsE
  rw [List.take_of_length_le (by rw [List.length_take]; omega), List.take_of_length_le (i := 8) (l := l.take k) (by rw [List.length_take]; omega), ← List.take_append_getElem hk, List.map_append]
  rfl
theorem ptsE_full (l : List Int) (k : Nat) (h8 : 8 ≤ k) : ptsE (l.take (k + 1)) = ptsE (l.take k) := by
  unfold ptsE
  rw [List.take_take, List.take_take, Nat.min_eq_left (by omega), Nat.min_eq_left (by omega)]
theorem ptsE_len (l : List Int) (k : Nat) (hk : k ≤ l.length) : (ptsE (l.take k)).length = min 8 k := by
  unfold ptsE
  rw [List.length_map, List.length_take, List.length_take]; omega
theorem ptsE_right (l : List Int) : rightE (ptsE l) = 0 := by
  have h1 : (ptsE l).length ≤ 8 := by unfold ptsE; rw [List.length_map, List.length_take]; omega
  unfold rightE
  rw [if_neg (by omega), if_neg]
  intro h
  obtain ⟨p, hp, hb⟩ := List.any_eq_true.1 h
  unfold ptsE at hp
  obtain ⟨q, _, rfl⟩ := List.mem_map.1 hp
  have := pk_range q 256 (by omega) (by omega)
  simp [badP] at hb
  omega

def PointsRes (l : List Int) (w : World) (e : Ending) (w' : World) : Prop :=
  ∃ v, e = .returned v ∧ w'.ownsRow w.heap.size 3 1 v (ptsE l).length (ints (ptsE l)) ∧ Below w.heap.size w w'

set_option maxHeartbeats 1000000 in
theorem points_any (v : Value) (l : List Int) (w : World) (h : IntsAt w v l) (hl : l.length ≤ 1000000) :
    Calls Try.prog 15 #[v] w (PointsRes l w) := by
  obtain ⟨i0, hi, hz0, hz1, hz2⟩ := info_parts intInfo
  have HI := Lib.hid hi
  have HZ0 := Lib.hid hz0
  have HZ1 := Lib.hid hz1
  have HZ2 := Lib.hid hz2
  clear hi hz0 hz1 hz2
  obtain ⟨N, HN⟩ : ∃ N, Hid (N = l.length) := ⟨_, rfl⟩
  obtain ⟨p, cp, hu, HP⟩ : ∃ p cp, v = .slice p N cp ∧ Hid (0 < N → ∃ g o, p = some ⟨g, o, none⟩ ∧ ∀ (j : Nat) (x : Value), (ints l)[j]? = some x → w.cell? ⟨g, o + j, none⟩ = some x) := by
    rw [HN.out]
    obtain ⟨_, ⟨h0, a0, c0, rfl⟩ | ⟨g, o, cap, rfl, hc⟩⟩ := h
    · exact ⟨a0, c0, by rw [h0], fun h => by omega⟩
    · exact ⟨_, cap, rfl, fun _ => ⟨g, o, rfl, hc⟩⟩
  rw [← HN.out] at hl
  subst hu
  clear h
  go_enter Try.func15, Try.ntmps15
  go_wp2
  go_loopw [3, 8] (fun o i wr => ∃ k : Nat, k ≤ N ∧ i = .int .i64 k ∧ Hid (wr.ownsRow w.heap.size 3 1 o (min 8 k) (ints (ptsE (l.take k)))) ∧ Below w.heap.size w wr) (fun _ i _ => N - (intOf i).toNat)
  case atStart => exact ⟨0, Nat.zero_le _, rfl, World.ownsRow_nil _ _ _ _, Below.refl _ _⟩
  case round =>
    obtain ⟨k, hk, rfl, HO, HB⟩ := hrel
    by_cases hlt : k < N
    · obtain ⟨g, o, rfl, hc⟩ := HP.out (by omega)
      have hkl : k < l.length := by rw [← HN.out]; exact hlt
      have hcl := hc _ _ (ints_get l k hkl)
      have c1 := (HB.cell (block_lt_of_cell hcl)).trans hcl
      obtain ⟨x, hx⟩ : ∃ x, Hid (x = l[k]) := ⟨l[k], rfl⟩
      rw [← hx.out] at c1
      have HC := Lib.hid hc
      clear hc hcl
      have hlt2 : (k : Int) < (N : Int) := by omega
      obtain ⟨q, cq, hv, _⟩ := owns_slice HO.out
      subst hv
      by_cases h8 : k < 8
      · have hm : min 8 k = k := by omega
        rw [hm] at HO ⊢
        have hlt' := (HO.out.alloc (.cells #[.int .i64 (pk x 256)] 3)).lt
        go_wp2_with (first
          | (go_at_call 18; refine (pick_any _ _ _ (by omega) (by omega)).mono ?_; rintro e w' ⟨rfl, rfl⟩)
          | (at_builtin; refine wpList_append_own _ rfl _ _ 22 rfl w.heap.size 3 i0 (.int .i64 0) 1 8 intsT HI.out HZ0.out HZ1.out HZ2.out rfl (by decide) _ _ _ rfl (HO.out.alloc _) ⟨wr.heap.size, 0, none⟩ 1 1 [.int .i64 (pk x 256)] rfl rfl (fun j u hu => new_cells _ #[.int .i64 (pk x 256)] _ j u hu) (fun u hu => by simp at hu; subst hu; rfl) (by unfold maxLen; omega) (by omega) (by have := HB.size; simp; omega) ?_; intro v' w4 hown hgrow _))
        have HO4 : Hid (w4.ownsRow w.heap.size 3 1 v' (min 8 (k + 1)) (ints (ptsE (l.take (k + 1))))) := by
          rw [show min 8 (k + 1) = k + 1 by omega, ptsE_snoc l k hkl h8, ← hx.out]
          have e : ints (ptsE (l.take k) ++ [pk x 256]) = ints (ptsE (l.take k)) ++ [.int .i64 (pk x 256)] := by simp [ints]
          rw [e]; exact hown
        have HB4 : Below w.heap.size w w4 := Below.grown (HB.alloc HB.size _) hgrow (by have := HB.size; simp; omega) (fun r hr => (hlt' r hr).1)
        clear hown hgrow hlt' hm
        go_wp2
        go_roundw
        case rel => exact ⟨k + 1, by omega, by go_num, HO4, HB4⟩
        case measure => simp [intOf]; omega
      · have hm : min 8 k = 8 := by omega
        rw [hm] at HO ⊢
        have HO4 : Hid (wr.ownsRow w.heap.size 3 1 (.slice q 8 cq) (min 8 (k + 1)) (ints (ptsE (l.take (k + 1))))) := by
          rw [show min 8 (k + 1) = 8 by omega, ptsE_full l k (by omega)]; exact HO.out
        clear hm
        go_wp2
        go_roundw
        case rel => exact ⟨k + 1, by omega, by go_num, HO4, HB⟩
        case measure => simp [intOf]; omega
    · have HO4 : Hid (wr.ownsRow w.heap.size 3 1 u3 (ptsE l).length (ints (ptsE l))) := by
        have h1 := ptsE_len l k (by rw [← HN.out]; exact hk)
        have h2 := HO.out
        rw [← h1, List.take_of_length_le (by rw [← HN.out]; omega)] at h2
        exact h2
      go_wp2
      go_ret
      exact ⟨_, rfl, HO4.out, HB⟩

/-- A block of ints that was made last, as a slice. -/
theorem ints_new (w : World) (l : List Int) (t : TypeId) (cap : Nat) : IntsAt (w.alloc (.cells (ints l).toArray t)) (.slice (some ⟨w.heap.size, 0, none⟩) l.length cap) l := by
  refine ⟨by simp [ints], Or.inr ⟨w.heap.size, 0, cap, rfl, fun j x hx => ?_⟩⟩
  rw [Nat.zero_add, cell_of_row _ _ j _ t (0, 0) (heap_alloc_new w _)]
  simpa using hx
theorem pairs_new (w : World) (l : List (Int × Int)) (t : TypeId) (cap : Nat) : RowAt (w.alloc (.cells (pairs l).toArray t)) (.slice (some ⟨w.heap.size, 0, none⟩) l.length cap) 2 l.length (pairs l) := by
  refine ⟨pairs_len l, Or.inr ⟨w.heap.size, 0, cap, rfl, fun j x hx => ?_⟩⟩
  rw [Nat.zero_add, cell_of_row _ _ j _ t (0, 0) (heap_alloc_new w _)]
  simpa using hx

set_option maxHeartbeats 1000000 in
theorem run_true (w : World) :
    Calls Try.prog 14 #[] w fun e w' => e = .returned (.bool true) ∧ Below w.heap.size w w' := by
  go_enter Try.func14, Try.ntmps14
  go_wp2_with fail
  refine (of_good _ [5, 6, 0, 0, 9] _ (ints_new w [5, 6, 0, 0, 9] _ _) rfl).mono ?_
  rintro e w1 ⟨o, rfl, hown, hb1⟩
  have HO := Lib.hid hown
  clear hown
  go_wp2_with fail
  refine (pack_good _ [5, 6, 0, 0, 9] _ (ints_new w1 [5, 6, 0, 0, 9] _ _) rfl).mono ?_
  rintro e w2 ⟨g, rfl, hg, hcell, hb2⟩
  have HC := Lib.hid hcell
  clear hcell
  go_wp2_with fail
  have hof : ofE [5, 6, 0, 0, 9] = [(5, 2), (0, 2), (9, 1)] := by decide
  have hrow : RowAt w1 o 2 3 (pairs [(5, 2), (0, 2), (9, 1)]) := by
    have := RowAt.of_owns HO.out
    rw [hof] at this
    exact this
  have hrow2 := ((hrow.below ((Below.refl _ _).alloc (Nat.le_refl _) _)).below hb2).below ((Below.refl _ w2).alloc (Nat.le_refl _) (.cells (pairs [(5, 2), (0, 2), (9, 1)]).toArray 35))
  refine (equalExt_true _ _ [(5, 2), (0, 2), (9, 1)] _ hrow2 (pairs_new w2 [(5, 2), (0, 2), (9, 1)] _ _) (by decide)).mono ?_
  rintro e w3 ⟨rfl, hb3⟩
  have HC3 : Hid (w3.heap[g]? = some (.cells (byts (packL (ofE [5, 6, 0, 0, 9]))) 5 (0, 0))) := heap_below hb3 (heap_alloc_keep HC.out _)
  have hby : byts (packL (ofE [5, 6, 0, 0, 9])) = #[.int .u8 5, .int .u8 2, .int .u8 0, .int .u8 2, .int .u8 9, .int .u8 1, .int .u8 0, .int .u8 0, .int .u8 0, .int .u8 0, .int .u8 0, .int .u8 0, .int .u8 0, .int .u8 0, .int .u8 0, .int .u8 0] := by rw [hof]; rfl
  rw [hby] at HC3
  have cell : ∀ j v, (#[Value.int .u8 5, .int .u8 2, .int .u8 0, .int .u8 2, .int .u8 9, .int .u8 1, .int .u8 0, .int .u8 0, .int .u8 0, .int .u8 0, .int .u8 0, .int .u8 0, .int .u8 0, .int .u8 0, .int .u8 0, .int .u8 0] : Array Value)[j]? = some v → w3.cell? ⟨g, j, none⟩ = some v := fun j v h => (cell_of_row _ _ _ _ _ _ HC3.out).trans h
  have c0 := cell 0 _ rfl
  have c1 := cell 1 _ rfl
  have c2 := cell 2 _ rfl
  have c3 := cell 3 _ rfl
  have c4 := cell 4 _ rfl
  have c5 := cell 5 _ rfl
  have hBB : Below w.heap.size w w3 := ((Below.refl _ _).alloc (Nat.le_refl _) _).trans ((hb1.mono (by simp)).trans ((((Below.refl _ w1).alloc (Nat.le_refl _) _).mono (by have := hb1.size; simp at this; omega)).trans ((hb2.mono (by have := hb1.size; simp at this ⊢; omega)).trans ((((Below.refl _ w2).alloc (Nat.le_refl _) _).mono (by have := hb1.size; have := hb2.size; simp at *; omega)).trans (hb3.mono (by have := hb1.size; have := hb2.size; simp at *; omega))))))
  have hcv : (convert 37 9 (.slice (some ⟨g, 0, none⟩) 6 16)).run Try.prog w3 = .ok (.string ⟨#[5, 2, 0, 2, 9, 1]⟩) w3 :=
    run_string_of w3 37 9 5 g 0 16 6 [5, 2, 0, 2, 9, 1] rfl (by kernel_rfl) (by kernel_rfl) (by kernel_rfl) (fun j v h => by
      rw [Nat.zero_add]
      match j, h with
      | 0, h => cases h; exact c0
      | 1, h => cases h; exact c1
      | 2, h => cases h; exact c2
      | 3, h => cases h; exact c3
      | 4, h => cases h; exact c4
      | 5, h => cases h; exact c5
      | j + 6, h => simp at h)
  clear cell hby hrow hrow2 hof HC HC3
  go_wp2_with fail
  go_ret
  exact ⟨rfl, hBB⟩

end Go.Proofs.Ytneknlbmiofmlaa
