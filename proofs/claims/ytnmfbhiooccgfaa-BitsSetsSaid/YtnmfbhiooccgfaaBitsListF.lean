/- List of package bits: the elements of a set, rising. -/
import Derived.Test.YtnmfbhiooccgfaaBits4
namespace Go.Proofs.Ytnmfbhiooccgfaa
open Go.RowKit

theorem ownsRow_below {w w' : World} {base : Nat} {e : TypeId} {size : Nat} {v : Value} {n : Nat} {xs : List Value} (h : w.ownsRow base e size v n xs) (hb : Below w.heap.size w w') : w'.ownsRow base e size v n xs := by
  obtain ⟨h1, h2⟩ := h
  refine ⟨h1, ?_⟩
  rcases h2 with h2 | ⟨g, cap, cur, hv, hg, hh, r⟩
  · exact Or.inl h2
  · exact Or.inr ⟨g, cap, cur, hv, hg, heap_below hb hh, r⟩

/-- The elements below k, rising. -/
def lst (s : Nat → Bool) : Nat → List Nat
  | 0 => []
  | k + 1 => lst s k ++ (if s k then [k] else [])
theorem lst_len (s : Nat → Bool) : ∀ k, (lst s k).length = cntTo s k
  | 0 => rfl
  | k + 1 => by
    simp only [lst, List.length_append, lst_len s k, cntTo]
    cases s k <;> simp [b2]
def ints (l : List Nat) : List Value := l.map fun n : Nat => Value.int .i64 (n : Int)
theorem ints_snoc (l : List Nat) (k : Nat) : ints (l ++ [k]) = ints l ++ [.int .i64 k] := by simp [ints]

theorem intInfo : (Try.prog.info? 3).map (fun i => (i.zero, i.size, i.bytes)) = some (some (.int .i64 0), 1, 8) := by kernel_rfl
theorem intsT : Try.prog.underlying 33 = some (.slice 3) := by kernel_rfl

def ListRes (s : Nat → Bool) (w : World) (e : Ending) (w' : World) : Prop :=
  ∃ v, e = .returned v ∧ w'.ownsRow (w.heap.size + 1) 3 1 v (cntTo s 256) (ints (lst s 256)) ∧ Below w.heap.size w w'

set_option maxRecDepth 100000 in
set_option maxHeartbeats 1000000 in
theorem list_raw (s : Nat → Bool) (A : Array Value) (HA : Hid (A = enc s)) (w : World) :
    Calls Try.prog 18 #[.agg A] w (ListRes s w) := by
  have HS : Hid (A.size = 32) := by rw [HA.out]; exact enc_size s
  have HH : Hid (∀ (k : Nat) (W : World), k < 256 → Calls Try.prog 16 #[.agg A, .int .i64 k] W fun e w' => e = .returned (.bool (s k)) ∧ Below W.heap.size W w') := fun k W h3 => by
    rw [HA.out]; exact has_in s k W (by omega) (by omega)
  obtain ⟨i0, hi, hz0, hz1, hz2⟩ := info_parts intInfo
  have HI := Lib.hid hi
  have HZ0 := Lib.hid hz0
  have HZ1 := Lib.hid hz1
  have HZ2 := Lib.hid hz2
  clear hi hz0 hz1 hz2
  go_enter Try.func18, Try.ntmps18
  go_wp2
  go_loopw [3, 5] (fun v i wr => ∃ k : Nat, k ≤ 256 ∧ i = .int .i64 k ∧ Hid (wr.ownsRow (w.heap.size + 1) 3 1 v (cntTo s k) (ints (lst s k))) ∧ Below w.heap.size w wr ∧ Hid (wr.heap[w.heap.size]? = some (.cells A 23 (0, 0)))) (fun _ i _ => 256 - (intOf i).toNat)
  case atStart => exact ⟨0, Nat.zero_le _, rfl, World.ownsRow_nil _ _ _ _, (Below.refl _ _).alloc (Nat.le_refl _) _, heap_alloc_new _ _⟩
  case round =>
    obtain ⟨k, hk, rfl, HO, HB, H0⟩ := hrel
    by_cases hlt : k < 256
    · cases hs : s k
      · have HSk := Lib.hid hs
        clear hs
        go_wp2_with (first
          | (refine wpList_load_row rfl 23 (.tmp 1) rfl w.heap.size rfl 23 A (0, 0) _ H0.out setT rfl (by rw [HS.out]; exact setI) ?_)
          | (go_at_call 16; refine (HH.out k _ hlt).mono ?_; rw [HSk.out]; rintro e w3 ⟨rfl, hb3⟩))
        go_roundw
        case rel =>
          refine ⟨k + 1, by omega, by go_num, ?_, Below.step HB hb3, heap_below hb3 H0.out⟩
          have e1 : lst s (k + 1) = lst s k := by simp [lst, HSk.out]
          have e2 : cntTo s (k + 1) = cntTo s k := by simp [cntTo, HSk.out, b2]
          rw [e1, e2]
          exact ownsRow_below HO.out hb3
        case measure => simp [intOf]; omega
      · have HSk := Lib.hid hs
        clear hs
        go_wp2_with (first
          | (refine wpList_load_row rfl 23 (.tmp 1) rfl w.heap.size rfl 23 A (0, 0) _ H0.out setT rfl (by rw [HS.out]; exact setI) ?_)
          | (go_at_call 16; refine (HH.out k _ hlt).mono ?_; rw [HSk.out]; rintro e w3 ⟨rfl, hb3⟩)
          | (at_builtin; refine wpList_append_own _ rfl _ _ 33 rfl (w.heap.size + 1) 3 i0 (.int .i64 0) 1 8 intsT HI.out HZ0.out HZ1.out HZ2.out rfl (by decide) _ _ _ rfl ((ownsRow_below HO.out hb3).alloc _) ⟨w3.heap.size, 0, none⟩ 1 1 [.int .i64 k] rfl rfl ?c1 ?c2 ?c3 ?c4 ?c5 ?_))
        case c1 => intro j u hu; match j, hu with
          | 0, hu => simp at hu; subst hu; exact (World.cell?_alloc_new _ _ _ _).trans rfl
          | j + 1, hu => simp at hu
        case c2 => intro u hu; simp at hu; subst hu; rfl
        case c3 => have := cntTo_le s k; unfold maxLen; omega
        case c4 => have := cntTo_le s k; omega
        case c5 => have := heap_lt H0.out; have := hb3.size; simp; omega
        intro v' w4 hown hgrow _
        have hO3 := ownsRow_below HO.out hb3
        have hlt3 := hO3.lt
        have HB4 : Below (w.heap.size + 1) w3 w4 := Below.grown ((Below.refl _ _).alloc (by have := heap_lt H0.out; have := hb3.size; omega) _) hgrow (by have := heap_lt H0.out; have := hb3.size; simp; omega) (fun r hr => (hlt3 r hr).1)
        have HO4 : Hid (w4.ownsRow (w.heap.size + 1) 3 1 v' (cntTo s (k + 1)) (ints (lst s (k + 1)))) := by
          have e1 : lst s (k + 1) = lst s k ++ [k] := by simp [lst, HSk.out]
          have e2 : cntTo s (k + 1) = cntTo s k + 1 := by simp [cntTo, HSk.out, b2]
          rw [e1, e2, ints_snoc]
          exact hown
        have HB5 : Below w.heap.size w w4 := (Below.step HB hb3).trans (HB4.mono (by omega))
        have H4 : Hid (w4.heap[w.heap.size]? = some (.cells A 23 (0, 0))) := (HB4.block _ (by omega)).trans (heap_below hb3 H0.out)
        clear hown hgrow hO3 hlt3 HB4
        go_wp2
        go_roundw
        case rel => exact ⟨k + 1, by omega, by go_num, HO4, HB5, H4⟩
        case measure => simp [intOf]; omega
    · obtain rfl : k = 256 := by omega
      go_wp2
      go_ret
      exact ⟨_, rfl, HO.out, HB⟩

end Go.Proofs.Ytnmfbhiooccgfaa
