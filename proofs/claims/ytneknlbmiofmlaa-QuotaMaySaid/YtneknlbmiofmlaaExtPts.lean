/- extent.Points: the sectors that runs stand for. -/
import Derived.Test.YtneknlbmiofmlaaExtAtP
namespace Go.Proofs.Ytneknlbmiofmlaa
open Go.RowKit

/-- A run that is none. -/
def badX (x : Int × Int) : Bool := decide (x.1 < 0) || decide (256 ≤ x.1) || decide (x.2 < 1) || decide (8 < x.2) || (decide (0 < x.1) && decide (256 < x.1 + x.2))
/-- The sectors so far, and those of runs; what is wrong, if anything is. -/
def ptsR : List (Int × Int) → List Int → List Int × Int
  | [], acc => (acc, 0)
  | x :: r, acc => if badX x then ([], 1) else if 8 < acc.length + (exp1 x).length then ([], 2) else ptsR r (acc ++ exp1 x)

theorem exp1_take (x : Int × Int) (j : Nat) (hj : (j : Int) < x.2) : (exp1 x).take (j + 1) = (exp1 x).take j ++ [if x.1 = 0 then 0 else x.1 + j] := by
  have hl : j < (exp1 x).length := by simp [exp1]; omega
  rw [← List.take_append_getElem hl]
  congr 2
  simp [exp1]

/-- An append onto an owned row leaves a block of another type alone. -/
theorem keep_other {w w' : World} {base : Nat} {e e' : TypeId} {size : Nat} {v : Value} {n : Nat} {xs : List Value} {g : Nat} {cs : Array Value} {fr : Nat × Nat} (h : w.ownsRow base e size v n xs) (hg : w.grownBy w' v.ownBlock)
    (hb : w.heap[g]? = some (.cells cs e' fr)) (hne : e ≠ e') : w'.heap[g]? = some (.cells cs e' fr) := by
  rw [hg.block g (heap_lt hb) ?_]
  · exact hb
  · intro heq
    obtain ⟨_, ⟨rfl, _⟩ | ⟨g', cap, cur, rfl, _, hh, _⟩⟩ := h
    · cases heq
    · cases heq
      rw [hh] at hb
      injection hb with hb
      injection hb with _ hb _
      exact hne hb

def PtsRes (l : List (Int × Int)) (w : World) (e : Ending) (w' : World) : Prop :=
  ((ptsR l []).2 = 0 ∧ ∃ v, e = .returned (.tuple #[v, .int .i64 0]) ∧ w'.ownsRow w.heap.size 3 1 v (ptsR l []).1.length (ints (ptsR l []).1) ∧ Below w.heap.size w w') ∨
  ((ptsR l []).2 ≠ 0 ∧ e = .returned (.tuple #[.slice none 0 0, .int .i64 (ptsR l []).2]) ∧ Below w.heap.size w w')

set_option maxHeartbeats 2000000 in
theorem points_ext (v : Value) (l : List (Int × Int)) (w : World) (h : RowAt w v 2 l.length (pairs l)) (hl : l.length ≤ 1000000) (hx : ∀ x, x ∈ l → -9223372036854775808 ≤ x.1 ∧ x.1 ≤ 9223372036854775807 ∧ -9223372036854775808 ≤ x.2 ∧ x.2 ≤ 9223372036854775807) :
    Calls Try.prog 19 #[v] w (PtsRes l w) := by
  obtain ⟨i0, hi, hz0, hz1, hz2⟩ := info_parts intInfo
  have HI := Lib.hid hi
  have HZ0 := Lib.hid hz0
  have HZ1 := Lib.hid hz1
  have HZ2 := Lib.hid hz2
  clear hi hz0 hz1 hz2
  obtain ⟨N, HN⟩ : ∃ N, Hid (N = l.length) := ⟨_, rfl⟩
  rw [← HN.out] at h hl
  obtain ⟨p, cp, hu, HP⟩ : ∃ p cp, v = .slice p N cp ∧ Hid (0 < N → ∃ g o, p = some ⟨g, o, none⟩ ∧ ∀ (j : Nat) (x : Value), (pairs l)[j]? = some x → w.cell? ⟨g, o + j, none⟩ = some x) := by
    obtain ⟨_, ⟨h0, a0, c0, rfl⟩ | ⟨g, o, cap, rfl, hc⟩⟩ := h
    · exact ⟨a0, c0, by rw [h0], fun h => by omega⟩
    · exact ⟨_, cap, rfl, fun _ => ⟨g, o, rfl, hc⟩⟩
  subst hu
  have HX := Lib.hid hx
  clear h hx
  go_enter Try.func19, Try.ntmps19
  go_wp2
  go_loopw [4, 10] (fun o i wr => ∃ (k : Nat) (acc : List Int), k ≤ N ∧ i = .int .i64 k ∧ acc.length ≤ 8 ∧ Hid (ptsR (l.drop k) acc = ptsR l []) ∧ Hid (wr.ownsRow w.heap.size 3 1 o acc.length (ints acc)) ∧ Below w.heap.size w wr) (fun _ i _ => N - (intOf i).toNat)
  case atStart => exact ⟨0, [], Nat.zero_le _, rfl, by simp, rfl, World.ownsRow_nil _ _ _ _, Below.refl _ _⟩
  case round =>
    obtain ⟨k, acc, hk, rfl, hacc, HR, HO, HB⟩ := hrel
    by_cases hlt : k < N
    · obtain ⟨g, o, rfl, hc⟩ := HP.out (by omega)
      have hkl : k < l.length := by rw [← HN.out]; exact hlt
      have hp := pairs_get l k hkl
      obtain ⟨a, ha⟩ : ∃ a, Hid (a = l[k].1) := ⟨l[k].1, rfl⟩
      obtain ⟨n, hn⟩ : ∃ n, Hid (n = l[k].2) := ⟨l[k].2, rfl⟩
      have hr := HX.out _ (List.getElem_mem hkl)
      rw [← ha.out, ← hn.out] at hp hr
      obtain ⟨ha0, ha1, hn0, hn1⟩ := hr
      have keep : ∀ {x : Addr} {y : Value}, w.cell? x = some y → wr.cell? x = some y := fun h => (HB.cell (block_lt_of_cell h)).trans h
      have c1 := keep (hc _ _ hp.1)
      have c2 := keep (hc _ _ hp.2)
      have HC := Lib.hid hc
      clear hc hp keep
      rw [← Nat.add_assoc] at c2
      have hlt2 : (k : Int) < (N : Int) := by omega
      have HS : Hid (ptsR l [] = if badX (a, n) then ([], 1) else if 8 < acc.length + (exp1 (a, n)).length then ([], 2) else ptsR (l.drop (k + 1)) (acc ++ exp1 (a, n))) := by
        rw [← HR.out, List.drop_eq_getElem_cons hkl, ptsR, ha.out, hn.out]; exact rfl
      have HB4 : Below w.heap.size w (wr.alloc (Obj.cells #[Value.int IntKind.i64 a, Value.int IntKind.i64 n] 35)) := HB.alloc HB.size _
      by_cases hbad : badX (a, n) = true
      · have HF : Hid ((ptsR l []).2 = 1) := by rw [HS.out, if_pos hbad]; exact rfl
        have HBB := Lib.hid hbad
        by_cases q1 : a < 0
        · clear hbad
          go_wp2
          go_ret2
          exact Or.inr ⟨by rw [HF.out]; decide, by rw [HF.out]; rfl, HB4⟩
        · by_cases q2 : 256 ≤ a
          · clear hbad
            go_wp2
            go_ret2
            exact Or.inr ⟨by rw [HF.out]; decide, by rw [HF.out]; rfl, HB4⟩
          · by_cases q3 : n < 1
            · clear hbad
              go_wp2
              go_ret2
              exact Or.inr ⟨by rw [HF.out]; decide, by rw [HF.out]; rfl, HB4⟩
            · by_cases q4 : 8 < n
              · clear hbad
                go_wp2
                go_ret2
                exact Or.inr ⟨by rw [HF.out]; decide, by rw [HF.out]; rfl, HB4⟩
              · have q5 : 0 < a := by simp [badX] at hbad; omega
                have q6 : 256 < a + n := by simp [badX] at hbad; omega
                clear hbad
                go_wp2
                go_ret2
                exact Or.inr ⟨by rw [HF.out]; decide, by rw [HF.out]; rfl, HB4⟩
      · have hb1 : 0 ≤ a := by simp [badX] at hbad; omega
        have hb2 : a < 256 := by simp [badX] at hbad; omega
        have hb3 : 1 ≤ n := by simp [badX] at hbad; omega
        have hb4 : n ≤ 8 := by simp [badX] at hbad; omega
        have hb5 : 0 < a → a + n ≤ 256 := by simp [badX] at hbad; omega
        have HBAD := Lib.hid hbad
        clear hbad
        by_cases hq : 0 < a
        all_goals
          have hb6 : a + n ≤ 512 := by omega
          have hb7 : ¬ (256 : Int) < a + n ∨ ¬ (0 : Int) < a := by omega
          first | (have hb8 : ¬ (256 : Int) < a + n := by omega) | skip
          obtain ⟨wo, hwo⟩ : ∃ wo : World, wo = wr := ⟨_, rfl⟩
          subst hwo
          go_wp2
          go_loopw [4, 47] (fun o i wi => ∃ j : Nat, (j : Int) ≤ n ∧ i = .int .i64 j ∧ Hid (wi.ownsRow w.heap.size 3 1 o (acc.length + j) (ints (acc ++ (exp1 (a, n)).take j))) ∧ Below w.heap.size w wi ∧ Hid (wi.heap[wo.heap.size]? = some (.cells #[.int .i64 a, .int .i64 n] 35 (0, 0)))) (fun _ i _ => (n - intOf i).toNat)
          case atStart =>
            refine ⟨0, by omega, rfl, ?_, HB4, heap_alloc_new _ _⟩
            simp only [List.take_zero, List.append_nil, Nat.add_zero]
            exact HO.out.alloc _
          case round =>
            obtain ⟨j, hj, rfl, HO2, HB2, HS2⟩ := hrel
            have d1 : wr.cell? ⟨wo.heap.size, 0, none⟩ = some (.int .i64 a) := cell_of_row _ _ _ _ _ _ HS2.out
            have d2 : wr.cell? ⟨wo.heap.size, 1, none⟩ = some (.int .i64 n) := cell_of_row _ _ _ _ _ _ HS2.out
            by_cases hjn : (j : Int) < n
            · by_cases hz : a = 0
              · have hab : (a == 0) = true := by simpa using hz
                have HZ := Lib.hid hz
                clear hz
                have hlt' := (HO2.out.alloc (.cells #[.int .i64 a] 3)).lt
                go_wp2_with (first
                  | (at_builtin; refine wpList_append_own _ rfl _ _ 22 rfl w.heap.size 3 i0 (.int .i64 0) 1 8 intsT HI.out HZ0.out HZ1.out HZ2.out rfl (by decide) _ _ _ rfl (HO2.out.alloc _) ⟨wr.heap.size, 0, none⟩ 1 1 [.int .i64 a] rfl rfl (fun j u hu => new_cells _ #[.int .i64 a] _ j u hu) (fun u hu => by simp at hu; subst hu; rfl) (by unfold maxLen; omega) (by omega) (by have := HB2.size; simp; omega) ?_; intro v' w4 hown hgrow _))
                have HO4 : Hid (w4.ownsRow w.heap.size 3 1 v' (acc.length + (j + 1)) (ints (acc ++ (exp1 (a, n)).take (j + 1)))) := by
                  rw [exp1_take (a, n) j hjn]
                  rw [if_pos HZ.out, ← HZ.out]
                  have e : ints (acc ++ (List.take j (exp1 (a, n)) ++ [a])) = ints (acc ++ List.take j (exp1 (a, n))) ++ [.int .i64 a] := by simp [ints]
                  rw [e]; exact hown
                have HB5 : Below w.heap.size w w4 := Below.grown (HB2.alloc HB2.size _) hgrow (by have := HB2.size; simp; omega) (fun r hr => (hlt' r hr).1)
                have HS5 : Hid (w4.heap[wo.heap.size]? = some (.cells #[.int .i64 a, .int .i64 n] 35 (0, 0))) := keep_other (HO2.out.alloc _) hgrow (heap_alloc_keep HS2.out _) (by decide)
                clear hown hgrow hlt'
                go_wp2
                go_roundw
                case rel => exact ⟨j + 1, by omega, by go_num, HO4, HB5, HS5⟩
                case measure => simp [intOf]; omega
              · have hab : (a == 0) = false := by simpa using hz
                have HZ := Lib.hid hz
                clear hz
                have hsum : IntKind.i64.wrap (a + (j : Int)) = a + (j : Int) := IntWalk.i64_in _ (by omega)
                have HSUM := Lib.hid hsum
                clear hsum
                have hlt' := (HO2.out.alloc (.cells #[.int .i64 (a + j)] 3)).lt
                go_wp2_with (first
                  | (at_builtin; refine wpList_append_own _ rfl _ _ 22 rfl w.heap.size 3 i0 (.int .i64 0) 1 8 intsT HI.out HZ0.out HZ1.out HZ2.out rfl (by decide) _ _ _ rfl (HO2.out.alloc _) ⟨wr.heap.size, 0, none⟩ 1 1 [.int .i64 (a + j)] rfl rfl (fun jj u hu => new_cells _ #[.int .i64 (a + j)] _ jj u hu) (fun u hu => by simp at hu; subst hu; rfl) (by unfold maxLen; omega) (by omega) (by have := HB2.size; simp; omega) ?_; intro v' w4 hown hgrow _))
                have HO4 : Hid (w4.ownsRow w.heap.size 3 1 v' (acc.length + (j + 1)) (ints (acc ++ (exp1 (a, n)).take (j + 1)))) := by
                  rw [exp1_take (a, n) j hjn]
                  rw [if_neg HZ.out]
                  have e : ints (acc ++ (List.take j (exp1 (a, n)) ++ [(a + j)])) = ints (acc ++ List.take j (exp1 (a, n))) ++ [.int .i64 (a + j)] := by simp [ints]
                  rw [e]; exact hown
                have HB5 : Below w.heap.size w w4 := Below.grown (HB2.alloc HB2.size _) hgrow (by have := HB2.size; simp; omega) (fun r hr => (hlt' r hr).1)
                have HS5 : Hid (w4.heap[wo.heap.size]? = some (.cells #[.int .i64 a, .int .i64 n] 35 (0, 0))) := keep_other (HO2.out.alloc _) hgrow (heap_alloc_keep HS2.out _) (by decide)
                clear hown hgrow hlt'
                go_wp2
                go_roundw
                case rel => exact ⟨j + 1, by omega, by go_num, HO4, HB5, HS5⟩
                case measure => simp [intOf]; omega
            · obtain ⟨q2, cq2, hv2, _⟩ := owns_slice HO2.out
              subst hv2
              have hle : (exp1 (a, n)).length = j := by simp [exp1]; omega
              have HTK : Hid ((exp1 (a, n)).take j = exp1 (a, n)) := by rw [← hle]; exact List.take_length
              have HLE := Lib.hid hle
              clear hle
              by_cases h8 : 8 < acc.length + j
              · have HF : Hid ((ptsR l []).2 = 2) := by rw [HS.out, if_neg HBAD.out, if_pos (by rw [HLE.out]; exact h8)]; exact rfl
                go_wp2
                go_ret2
                exact Or.inr ⟨by rw [HF.out]; decide, by rw [HF.out]; rfl, HB2⟩
              · have HF : Hid (ptsR (l.drop (k + 1)) (acc ++ exp1 (a, n)) = ptsR l []) := by rw [HS.out, if_neg HBAD.out, if_neg (by rw [HLE.out]; exact h8)]; exact rfl
                have HO4 : Hid (wr.ownsRow w.heap.size 3 1 (.slice q2 (acc.length + j) cq2) (acc ++ exp1 (a, n)).length (ints (acc ++ exp1 (a, n)))) := by
                  have := HO2.out
                  rw [HTK.out] at this
                  rw [List.length_append, HLE.out]; exact this
                have hacc2 : (acc ++ exp1 (a, n)).length ≤ 8 := by rw [List.length_append, HLE.out]; omega
                go_wp2
                go_roundw
                case rel => exact ⟨k + 1, acc ++ exp1 (a, n), by omega, by go_num, hacc2, HF, HO4, HB2⟩
                case measure => simp [intOf]; omega
    · have HF : Hid (ptsR l [] = (acc, 0)) := by
        rw [← HR.out, List.drop_of_length_le (by rw [← HN.out]; omega)]; exact rfl
      go_wp2
      go_ret2
      refine Or.inl ⟨by rw [HF.out], _, rfl, ?_, HB⟩
      rw [HF.out]; exact HO.out

end Go.Proofs.Ytneknlbmiofmlaa
