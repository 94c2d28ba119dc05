/- extent.Pack: the runs of a file's sectors in 16 bytes. -/
import Derived.Test.YtneknlbmiofmlaaExtOf
import Derived.RegionTactic
import Derived.BigRegion
namespace Go.Proofs.Ytneknlbmiofmlaa
open Go.RowKit

/-- The bytes of runs. -/
def flatE (l : List (Int × Int)) : List Int := l.flatMap fun x => [x.1, x.2]
theorem flatE_len (l : List (Int × Int)) : (flatE l).length = l.length * 2 := by
  induction l with
  | nil => rfl
  | cons x l ih => simp only [flatE, List.flatMap_cons, List.length_append, List.length_cons, List.length_nil] at *; omega
theorem flatE_append (a b : List (Int × Int)) : flatE (a ++ b) = flatE a ++ flatE b := by simp [flatE]
def packL (l : List (Int × Int)) : List Int := flatE l ++ List.replicate (16 - l.length * 2) 0
def byts (l : List Int) : Array Value := (l.map fun n => Value.int .u8 n).toArray

theorem pack_set (l : List (Int × Int)) (x : Int × Int) (h : l.length < 8) : ((byts (packL l)).setIfInBounds (l.length * 2) (.int .u8 x.1)).setIfInBounds (l.length * 2 + 1) (.int .u8 x.2) = byts (packL (l ++ [x])) := by
  have h1 := flatE_len l
  unfold byts packL
  rw [flatE_append, List.length_append, show 16 - l.length * 2 = (14 - l.length * 2) + 1 + 1 by omega, List.replicate_succ, List.replicate_succ, show 16 - (l.length + [x].length) * 2 = 14 - l.length * 2 by simp; omega]
  simp only [List.setIfInBounds_toArray, List.map_append, List.map_cons]
  rw [List.set_append_right _ _ (by simp; omega)]
  rw [show l.length * 2 - (List.map (fun n => Value.int IntKind.u8 n) (flatE l)).length = 0 by simp; omega]
  rw [List.set_append_right _ _ (by simp; omega)]
  rw [show l.length * 2 + 1 - (List.map (fun n => Value.int IntKind.u8 n) (flatE l)).length = 1 by simp; omega]
  simp [flatE]
theorem pack_size (l : List (Int × Int)) (h : l.length ≤ 8) : (byts (packL l)).size = 16 := by
  have := flatE_len l
  simp [byts, packL]; omega

theorem make16 (W : World) : (Instr.makeSlice 37 (.int .i64 16) (.int .i64 16)).run Try.prog W = .ok (.slice (some ⟨W.heap.size, 0, none⟩) 16 16) (W.alloc (.cells (byts (packL [])) 5)) := by kernel_rfl

theorem right_len {l : List Int} (hr : rightE l = 0) : l.length ≤ 8 := by
  unfold rightE at hr
  split at hr
  · cases hr
  · omega
theorem right_in {l : List Int} (hr : rightE l = 0) : ∀ p, p ∈ l → 0 ≤ p ∧ p ≤ 255 := fun p hp => by
  unfold rightE at hr
  split at hr
  · cases hr
  · split at hr
    · cases hr
    · rename_i hany
      have : badP p = false := by
        cases hb : badP p with
        | false => rfl
        | true => exact absurd (List.any_eq_true.2 ⟨p, hp, hb⟩) hany
      simp [badP] at this
      omega

def PackRes (l : List Int) (w : World) (e : Ending) (w' : World) : Prop :=
  ∃ g, e = .returned (.tuple #[.slice (some ⟨g, 0, none⟩) 16 16, .int .i64 0]) ∧ w.heap.size ≤ g ∧ w'.heap[g]? = some (.cells (byts (packL (ofE l))) 5 (0, 0)) ∧ Below w.heap.size w w'

set_option maxHeartbeats 1000000 in
theorem pack_good (v : Value) (l : List Int) (w : World) (h : IntsAt w v l) (hr : rightE l = 0) :
    Calls Try.prog 20 #[v] w (PackRes l w) := by
  have H := Lib.hid h
  have HR := Lib.hid hr
  clear h hr
  obtain ⟨Z0, HP0⟩ : ∃ Z, Hid (Z = byts (packL [])) := ⟨_, rfl⟩
  have hmk : ∀ W : World, (Instr.makeSlice 37 (.int .i64 16) (.int .i64 16)).run Try.prog W = .ok (.slice (some ⟨W.heap.size, 0, none⟩) 16 16) (W.alloc (.cells Z0 5)) := fun W => by rw [HP0.out]; exact make16 W
  go_enter Try.func20, Try.ntmps20
  go_wp2_with fail
  refine (of_good _ l _ H.out HR.out).mono ?_
  rintro e w1 ⟨o, rfl, hown, hb1⟩
  have hin : ∀ p, p ∈ l → 0 ≤ p ∧ p ≤ 255 := right_in HR.out
  have hl8 := right_len HR.out
  have hok := ofR_ok l.length l rfl hin
  obtain ⟨q, cap, hv, hq⟩ := owns_slice hown
  have HQ := Lib.hid hq
  subst hv
  have hN : (ofR l).length = (ofE l).length := by simp [ofE]
  have HOK : Hid (∀ x, x ∈ ofE l → 0 ≤ x.1 ∧ x.1 ≤ 255 ∧ 1 ≤ x.2 ∧ x.2 ≤ 8) := fun x hx => by
    have := hok.1 x (by simpa [ofE] using hx); omega
  obtain ⟨N, HN⟩ : ∃ N, Hid (N = (ofE l).length) := ⟨_, rfl⟩
  have hN8 : N ≤ 8 := by rw [HN.out, ← hN]; omega
  rw [hN, ← HN.out] at HQ ⊢
  clear hin hl8 hok hown hq hN
  have hbw := hb1
  have HB0 : Below w.heap.size w (w1.alloc (.cells Z0 5)) := hb1.alloc hb1.size _
  go_wp2_with fail
  go_loopw [20] (fun i wr => ∃ k : Nat, k ≤ N ∧ i = .int .i64 k ∧ Below w.heap.size w wr ∧ Hid (wr.heap[w1.heap.size]? = some (.cells (byts (packL ((ofE l).take k))) 5 (0, 0)))
      ∧ Hid (∀ g, q = some ⟨g, 0, none⟩ → ∀ (j : Nat) (x : Value), (pairs (ofE l))[j]? = some x → wr.cell? ⟨g, j, none⟩ = some x)) (fun i _ => N - (intOf i).toNat)
  case atStart =>
    refine ⟨0, Nat.zero_le _, rfl, HB0, ?_, fun g hg j x hx => ?_⟩
    · rw [List.take_zero, ← HP0.out]; exact heap_alloc_new _ _
    · have h0 : 0 < N := by
        rw [HN.out]
        rcases Nat.eq_zero_or_pos (ofE l).length with h | h
        · rw [List.length_eq_zero_iff.1 h] at hx; simp [pairs] at hx
        · exact h
      obtain ⟨g', hg', _, hc⟩ := HQ.out h0
      rw [hg] at hg'
      cases hg'
      have := hc j x hx
      exact (World.cell?_alloc_lt _ _ _ (block_lt_of_cell this)).trans this
  case round =>
    obtain ⟨k, hk, rfl, HB, H0, H1⟩ := hrel
    by_cases hlt : k < N
    · have hkl : k < (ofE l).length := by rw [← HN.out]; exact hlt
      obtain ⟨g, hqg, hg, hcg⟩ := HQ.out (by omega)
      subst hqg
      have hp := pairs_get (ofE l) k hkl
      obtain ⟨a, b, hab⟩ : ∃ a b, (ofE l)[k] = (a, b) := ⟨_, _, rfl⟩
      have hr := HOK.out _ (List.getElem_mem hkl)
      rw [hab] at hp hr
      have hgl : g < w1.heap.size := block_lt_of_cell (hcg _ _ hp.1)
      clear hcg
      have ca := H1.out g rfl _ _ hp.1
      have cb := H1.out g rfl _ _ hp.2
      obtain ⟨ha0, ha1, hb0, hb1⟩ := hr
      simp only at ha0 ha1 hb0 hb1 ca cb
      have HAB := Lib.hid hab
      clear hab hp
      have hz := pack_size ((ofE l).take k) (by rw [List.length_take]; omega)
      have hsz : w1.heap.size < wr.heap.size := heap_lt H0.out
      have hcx : ∀ j, j < 16 → ∃ x, wr.cell? ⟨w1.heap.size, j, none⟩ = some x := fun j hj => by
        rw [cell_of_row _ _ _ _ _ _ H0.out]
        exact ⟨_, Array.getElem?_eq_getElem (by rw [hz]; exact hj)⟩
      obtain ⟨x0, hx0⟩ := hcx (2 * k) (by omega)
      obtain ⟨x1, hx1⟩ := hcx (2 * k + 1) (by omega)
      have f0 : wr.frozen? ⟨w1.heap.size, 2 * k, none⟩ = false := frozen_of_row _ _ _ _ _ H0.out
      have f1 : wr.frozen? ⟨w1.heap.size, 2 * k + 1, none⟩ = false := frozen_of_row _ _ _ _ _ H0.out
      clear hcx
      have HZ := Lib.hid hz
      clear hz
      go_wp2
      go_region
      all_goals
        have hw1 := hbw.size
        have HB4 : Below w.heap.size w (((wr.setCell { block := w1.heap.size, off := 2 * k } (Value.int IntKind.u8 a)).setCell { block := w1.heap.size, off := 2 * k + 1 } (Value.int IntKind.u8 b)).alloc (Obj.cells #[Value.int IntKind.i64 a, Value.int IntKind.i64 b] 35)).drew :=
          (((HB.setCell hw1 _).setCell hw1 _).alloc ((HB.setCell hw1 _).setCell hw1 _).size _).drew
        have H4 : Hid ((((wr.setCell { block := w1.heap.size, off := 2 * k } (Value.int IntKind.u8 a)).setCell { block := w1.heap.size, off := 2 * k + 1 } (Value.int IntKind.u8 b)).alloc (Obj.cells #[Value.int IntKind.i64 a, Value.int IntKind.i64 b] 35)).drew.heap[w1.heap.size]? = some (.cells (byts (packL ((ofE l).take (k + 1)))) 5 (0, 0))) := by
          have h1 := heap_alloc_keep (heap_setCell_same _ _ (2 * k + 1) _ _ (.int .u8 b) (heap_setCell_same _ _ (2 * k) _ _ (.int .u8 a) H0.out)) (Obj.cells #[Value.int IntKind.i64 a, Value.int IntKind.i64 b] 35)
          have h2 := pack_set ((ofE l).take k) (a, b) (by rw [List.length_take]; omega)
          rw [List.length_take, show min k (ofE l).length = k by omega, show k * 2 = 2 * k by omega, ← HAB.out, List.take_append_getElem hkl] at h2
          simp only [HAB.out] at h2
          rw [← h2]
          exact h1
        have H5 : Hid (∀ g', some (⟨g, 0, none⟩ : Addr) = some ⟨g', 0, none⟩ → ∀ (j : Nat) (x : Value), (pairs (ofE l))[j]? = some x → (((wr.setCell { block := w1.heap.size, off := 2 * k } (Value.int IntKind.u8 a)).setCell { block := w1.heap.size, off := 2 * k + 1 } (Value.int IntKind.u8 b)).alloc (Obj.cells #[Value.int IntKind.i64 a, Value.int IntKind.i64 b] 35)).drew.cell? ⟨g', j, none⟩ = some x) := fun g' hg' j x hx => by
          cases hg'
          have h1 := H1.out g rfl j x hx
          have h2 : ((wr.setCell { block := w1.heap.size, off := 2 * k } (Value.int IntKind.u8 a)).setCell { block := w1.heap.size, off := 2 * k + 1 } (Value.int IntKind.u8 b)).cell? ⟨g, j, none⟩ = some x := by
            rw [World.cell?_setCell_other _ _ _ _ (by intro e; cases e; omega), World.cell?_setCell_other _ _ _ _ (by intro e; cases e; omega)]
            exact h1
          exact (World.cell?_alloc_lt _ _ _ (block_lt_of_cell h2)).trans h2
        clear ca cb hx0 hx1 f0 f1
        go_wp2
        go_roundw
        case rel => exact ⟨k + 1, by omega, by go_num, HB4, H4, H5⟩
        case measure => simp [intOf]; omega
    · have hkn : k = N := by omega
      have HF : Hid ((ofE l).take k = ofE l) := by rw [hkn, HN.out]; exact List.take_length
      have H4 : Hid (wr.heap[w1.heap.size]? = some (.cells (byts (packL (ofE l))) 5 (0, 0))) := by
        have := H0.out
        rw [HF.out] at this
        exact this
      clear hkn H0 HF
      go_wp2
      go_ret2
      exact ⟨_, rfl, hbw.size, H4.out, HB⟩

set_option maxHeartbeats 400000 in
theorem pack_bad (v : Value) (l : List Int) (w : World) (h : IntsAt w v l) (hl : l.length ≤ 1000000) (c : Int) (hc : Hid (rightE l = c)) (hc0 : (c != 0) = true) :
    Calls Try.prog 20 #[v] w fun e w' => e = .returned (.tuple #[.slice none 0 0, .int .i64 c]) ∧ w = w' := by
  have H := Lib.hid h
  clear h
  go_enter Try.func20, Try.ntmps20
  go_wp2_with fail
  refine (of_bad _ l _ H.out hl c hc hc0).mono ?_
  rintro e w' ⟨rfl, rfl⟩
  go_wp2
  go_ret2
  exact ⟨rfl, rfl⟩

end Go.Proofs.Ytneknlbmiofmlaa
