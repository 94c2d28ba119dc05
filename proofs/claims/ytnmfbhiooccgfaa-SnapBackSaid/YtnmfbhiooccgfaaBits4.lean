/- The fact that every statement on sets asks first. -/
import Derived.Test.YtnmfbhiooccgfaaBits3
namespace Go.Proofs.Ytnmfbhiooccgfaa
open Go.RowKit

def emp : Nat → Bool := fun _ => false
theorem enc_emp : #[Value.int IntKind.u8 0, Value.int IntKind.u8 0, Value.int IntKind.u8 0, Value.int IntKind.u8 0, Value.int IntKind.u8 0, Value.int IntKind.u8 0, Value.int IntKind.u8 0, Value.int IntKind.u8 0, Value.int IntKind.u8 0, Value.int IntKind.u8 0, Value.int IntKind.u8 0, Value.int IntKind.u8 0, Value.int IntKind.u8 0, Value.int IntKind.u8 0, Value.int IntKind.u8 0, Value.int IntKind.u8 0, Value.int IntKind.u8 0, Value.int IntKind.u8 0, Value.int IntKind.u8 0, Value.int IntKind.u8 0, Value.int IntKind.u8 0, Value.int IntKind.u8 0, Value.int IntKind.u8 0, Value.int IntKind.u8 0, Value.int IntKind.u8 0, Value.int IntKind.u8 0, Value.int IntKind.u8 0, Value.int IntKind.u8 0, Value.int IntKind.u8 0, Value.int IntKind.u8 0, Value.int IntKind.u8 0, Value.int IntKind.u8 0] = enc emp := by kernel_rfl

theorem setZ : ∀ w, (zeroValue 23).run Try.prog w = .ok (.agg (enc emp)) w := (zero_of_info (P := Try.prog) (t := 23) (v := .agg (enc emp)) (n := 32) (by rw [← enc_emp]; kernel_rfl)).1

set_option maxRecDepth 100000 in
set_option maxHeartbeats 1000000 in
theorem counted_true (w : World) :
    Calls Try.prog 11 #[] w fun e w' => e = .returned (.bool true) ∧ Below w.heap.size w w' := by
  go_enter Try.func11, Try.ntmps11
  go_wp2_with (first
    | (refine wpList_alloc_row rfl 23 rfl (enc emp) setZ ?_)
    | (refine wpList_load_row rfl 23 (.tmp 1) rfl w.heap.size rfl 23 (enc emp) (0, 0) _ (heap_alloc_new w _) setT rfl (by rw [enc_size]; exact setI) ?_))
  refine (with_in emp 3 _ (by omega) (by omega)).mono ?_
  rintro e w1 ⟨rfl, hb1⟩
  go_wp2_with fail
  refine (with_in _ 250 _ (by omega) (by omega)).mono ?_
  rintro e w2 ⟨rfl, hb2⟩
  have h1 : Hid (w2.heap[w.heap.size]? = some (.cells (enc emp) 23 (0, 0))) := heap_below hb2 (heap_below hb1 (heap_alloc_new w _))
  have hB : Below w.heap.size w w2 := ((Below.refl _ _).alloc (Nat.le_refl _) _).trans ((hb1.trans (hb2.mono hb1.size)).mono (by simp))
  clear hb1 hb2 w1
  go_wp2_with (first
    | (refine wpList_alloc_row rfl 23 rfl (enc emp) setZ ?_)
    | (refine wpList_store_row rfl 23 (.tmp 2) (.tmp 7) rfl w2.heap.size _ rfl rfl 23 (enc emp) (heap_alloc_new _ _) (by rw [enc_size]; exact setI) (by rw [enc_size, enc_size]) (enc_one _) ?_)
    | (refine wpList_load_row rfl 23 (.tmp 2) rfl w2.heap.size rfl 23 _ (0, 0) _ (setRow_heap _ _ _ _ _ _ (heap_alloc_new _ _)) setT rfl (by rw [enc_size]; exact setI) ?_)
    )
  have h2 : Hid (((w2.alloc (Obj.cells (enc emp) 23)).setRow w2.heap.size (enc (ins (ins emp 3) 250))).heap[w2.heap.size]? = some (.cells (enc (ins (ins emp 3) 250)) 23 (0, 0))) := setRow_heap _ _ _ _ _ _ (heap_alloc_new _ _)
  have h1' : Hid (((w2.alloc (Obj.cells (enc emp) 23)).setRow w2.heap.size (enc (ins (ins emp 3) 250))).heap[w.heap.size]? = some (.cells (enc emp) 23 (0, 0))) := heap_setRow_keep (heap_alloc_keep h1.out _) _ _ (by have := heap_lt h1.out; omega)
  have hB' : Below w.heap.size w ((w2.alloc (Obj.cells (enc emp) 23)).setRow w2.heap.size (enc (ins (ins emp 3) 250))) := Below.setRow (hB.alloc hB.size _) hB.size _
  clear hB h1
  generalize (w2.alloc (Obj.cells (enc emp) 23)).setRow w2.heap.size (enc (ins (ins emp 3) 250)) = w3 at *
  generalize w2.heap.size = g2 at *
  have HT3 : Hid (∀ m : Nat, (3 : Int) ≤ m → m < 4 → ins (ins emp 3) 250 m = true) := fun m h1 h2 => by
    have e : m = 3 := by omega
    rw [e]; rfl
  refine (first_some (ins (ins emp 3) 250) 3 10 4 _ (by omega) (by omega) (by omega) (by omega) (by omega) (by omega) (by omega) rfl HT3.out).mono ?_
  rintro e w4 ⟨rfl, hb4⟩
  have k1 := Lib.hid (heap_below hb4 h1'.out)
  have k2 := Lib.hid (heap_below hb4 h2.out)
  have kB := Below.step hB' hb4
  clear h1' h2 hB' hb4
  go_wp2_with (first
    | (refine wpList_load_row_g rfl 23 (.tmp 2) rfl g2 rfl 23 _ (0, 0) _ k2.out setT rfl (by rw [enc_size]; exact setI) ?_))
  have HC2 : Hid (cntTo (ins (ins emp 3) 250) 256 = 2) := by unfold Hid; decide +kernel
  refine (count_any _ _).mono ?_
  rw [HC2.out]
  rintro e w5 ⟨rfl, hb5⟩
  have k5 := Lib.hid (heap_below hb5 k2.out)
  go_wp2_with (first
    | (refine wpList_load_row_g rfl 23 (.tmp 2) rfl g2 rfl 23 _ (0, 0) _ k5.out setT rfl (by rw [enc_size]; exact setI) ?_))
  have c6 : Hid (∀ W : World, Calls Try.prog 16 #[.agg (enc (ins (ins emp 3) 250)), .int .i64 250] W fun e w' => e = .returned (.bool true) ∧ Below W.heap.size W w') := fun W => has_in (ins (ins emp 3) 250) 250 W (by omega) (by omega)
  have c7 : Hid (∀ W : World, Calls Try.prog 16 #[.agg (enc (ins (ins emp 3) 250)), .int .i64 4] W fun e w' => e = .returned (.bool false) ∧ Below W.heap.size W w') := fun W => has_in (ins (ins emp 3) 250) 4 W (by omega) (by omega)
  have c9 : Hid (∀ W : World, Calls Try.prog 16 #[.agg (enc (del (ins (ins emp 3) 250) 3)), .int .i64 3] W fun e w' => e = .returned (.bool false) ∧ Below W.heap.size W w') := fun W => has_in (del (ins (ins emp 3) 250) 3) 3 W (by omega) (by omega)
  refine (c6.out _).mono ?_
  rintro e w6 ⟨rfl, hb6⟩
  have k6 := Lib.hid (heap_below hb6 k5.out)
  go_wp2_with (first
    | (refine wpList_load_row_g rfl 23 (.tmp 2) rfl g2 rfl 23 _ (0, 0) _ k6.out setT rfl (by rw [enc_size]; exact setI) ?_))
  refine (c7.out _).mono ?_
  rintro e w7 ⟨rfl, hb7⟩
  have k7 := Lib.hid (heap_below hb7 k6.out)
  go_wp2_with (first
    | (refine wpList_load_row_g rfl 23 (.tmp 2) rfl g2 rfl 23 _ (0, 0) _ k7.out setT rfl (by rw [enc_size]; exact setI) ?_))
  refine (without_in _ 3 _ (by omega) (by omega)).mono ?_
  rintro e w8 ⟨rfl, hb8⟩
  go_wp2_with fail
  refine (c9.out _).mono ?_
  rintro e w9 ⟨rfl, hb9⟩
  have k9 := Lib.hid (heap_below hb9 (heap_below hb8 (heap_below hb7 (heap_below hb6 (heap_below hb5 k1.out)))))
  have HC0 : Hid (cntTo emp 256 = 0) := by unfold Hid; decide +kernel
  go_wp2_with (first
    | (refine wpList_load_row_g rfl 23 (.tmp 1) rfl w.heap.size rfl 23 _ (0, 0) _ k9.out setT rfl (by rw [enc_size]; exact setI) ?_))
  refine (count_any _ _).mono ?_
  rw [HC0.out]
  rintro e w10 ⟨rfl, hb10⟩
  go_wp2_with fail
  go_ret
  exact ⟨rfl, Below.step (Below.step (Below.step (Below.step (Below.step (Below.step kB hb5) hb6) hb7) hb8) hb9) hb10⟩

end Go.Proofs.Ytnmfbhiooccgfaa
