/- What the functions of package bits compute, and that they leave what was there alone. -/
import Derived.Test.YtnmfbhiooccgfaaProg
import Derived.Test.YtnmfbhiooccgfaaBitsPlain
import Derived.WalkKit
import Derived.WalkSpells
import Derived.WalkLawsBesides
import Derived.Deep.WholeRow
import Derived.RegionTactic
import Derived.BigRegion
import Derived.Lib.Hide
namespace Go.Proofs.Ytnmfbhiooccgfaa
open Go.RowKit

/-- What 'pick' gives. -/
def pk (a n : Int) : Int := wrap64 ((IntKind.u64.wrap a).tmod n)
theorem pk_range (a n : Int) (h0 : 0 < n) (h1 : n < 9223372036854775808) : 0 ≤ pk a n ∧ pk a n < n := by
  unfold pk
  have h2 : 0 ≤ IntKind.u64.wrap a := by simp [IntKind.wrap, IntKind.bits, IntKind.signed]; omega
  have h3 := Int.tmod_nonneg n h2
  have h4 := Int.tmod_lt_of_pos (IntKind.u64.wrap a) h0
  have : wrap64 ((IntKind.u64.wrap a).tmod n) = (IntKind.u64.wrap a).tmod n := by
    unfold wrap64; omega
  rw [this]
  exact ⟨h3, h4⟩

set_option maxHeartbeats 400000 in
theorem pick_any (a n : Int) (w : World) (h0 : 0 < n) (h1 : n < 9223372036854775808) :
    Calls Try.prog 12 #[.int .i64 a, .int .i64 n] w fun e w' => e = .returned (.int .i64 (pk a n)) ∧ w = w' := by
  go_enter Try.func12, Try.ntmps12
  go_wp2
  go_ret
  exact ⟨rfl, rfl⟩

theorem setT : Try.prog.underlying 23 = some (.array 32 5) := by kernel_rfl
theorem setI : (Try.prog.info? 23).map (·.size) = some 32 := by kernel_rfl

theorem Below.setRow {B : Nat} {a w : World} (h : Below B a w) {g : Nat} (hp : B ≤ g) (cs : Array Value) : Below B a (w.setRow g cs) :=
  ⟨h.os, h.tape, h.output, by have := h.size; simp only [World.setRow, Array.size_modify]; exact this, fun k hk => by rw [setRow_other _ _ _ _ (by omega)]; exact h.block k hk⟩

set_option maxRecDepth 100000 in
set_option maxHeartbeats 400000 in
theorem with_raw (A B : Array Value) (n : Nat) (w : World) (hn : n < 256) (x : Int) (hx : A[n / 8]? = some (.int .u8 x))
    (HB : Hid (A.setIfInBounds (n / 8) (Value.int IntKind.u8 (bits BinOp.or IntKind.u8 x (2 ^ (n % 8) % 256))) = B)) (HS : Hid (B.size = 32)) (h1 : Hid (B.all (·.oneCell') = true)) :
    Calls Try.prog 13 #[.agg A, .int .i64 n] w fun e w' => e = .returned (.agg B) ∧ Below w.heap.size w w' := by
  go_enter Try.func13, Try.ntmps13
  go_wp2
  go_region
  all_goals
    rw [HB.out]
    go_wp2_with (first
      | (refine wpList_load_row rfl 23 (.tmp 2) rfl w.heap.size rfl 23 B (0, 0) _ (heap_alloc2_old w _ _) setT rfl (by rw [HS.out]; exact setI) ?_)
      | (refine wpList_store_row rfl 23 (.tmp 4) (.tmp 20) rfl (w.heap.size + 1) B rfl rfl 23 _ (heap_alloc2_new w _ _) (by rw [HS.out]; exact setI) (by rw [HS.out]; rfl) h1 ?_))
    refine bodyPost_ret (results_cell_row rfl _ _ (w.heap.size + 1) 23 B (0, 0) _ rfl (setRow_heap _ _ _ _ _ _ (heap_alloc2_new w _ _)) setT rfl (by rw [HS.out]; exact setI)) rfl ⟨rfl, ?_⟩
    exact Below.setRow (((Below.refl _ _).alloc (Nat.le_refl _) _).alloc (by simp) _).drew (by omega) _

theorem with_in (s : Nat → Bool) (n : Int) (w : World) (h0 : 0 ≤ n) (hn : n < 256) :
    Calls Try.prog 13 #[.agg (enc s), .int .i64 n] w fun e w' => e = .returned (.agg (enc (ins s n.toNat))) ∧ Below w.heap.size w w' := by
  obtain ⟨k, rfl⟩ := Int.eq_ofNat_of_zero_le h0
  exact with_raw (enc s) _ k w (by omega) _ (enc_get s (k / 8) (by omega)) (enc_ins s k (by omega)) (enc_size _) (enc_one _)

set_option maxRecDepth 100000 in
set_option maxHeartbeats 400000 in
theorem without_raw (A B : Array Value) (n : Nat) (w : World) (hn : n < 256) (x : Int) (hx : A[n / 8]? = some (.int .u8 x))
    (HB : Hid (A.setIfInBounds (n / 8) (Value.int IntKind.u8 (bits BinOp.andNot IntKind.u8 x (2 ^ (n % 8) % 256))) = B)) (HS : Hid (B.size = 32)) (h1 : Hid (B.all (·.oneCell') = true)) :
    Calls Try.prog 14 #[.agg A, .int .i64 n] w fun e w' => e = .returned (.agg B) ∧ Below w.heap.size w w' := by
  go_enter Try.func14, Try.ntmps14
  go_wp2
  go_region
  all_goals
    rw [HB.out]
    go_wp2_with (first
      | (refine wpList_load_row rfl 23 (.tmp 2) rfl w.heap.size rfl 23 B (0, 0) _ (heap_alloc2_old w _ _) setT rfl (by rw [HS.out]; exact setI) ?_)
      | (refine wpList_store_row rfl 23 (.tmp 4) (.tmp 20) rfl (w.heap.size + 1) B rfl rfl 23 _ (heap_alloc2_new w _ _) (by rw [HS.out]; exact setI) (by rw [HS.out]; rfl) h1 ?_))
    refine bodyPost_ret (results_cell_row rfl _ _ (w.heap.size + 1) 23 B (0, 0) _ rfl (setRow_heap _ _ _ _ _ _ (heap_alloc2_new w _ _)) setT rfl (by rw [HS.out]; exact setI)) rfl ⟨rfl, ?_⟩
    exact Below.setRow (((Below.refl _ _).alloc (Nat.le_refl _) _).alloc (by simp) _).drew (by omega) _

theorem without_in (s : Nat → Bool) (n : Int) (w : World) (h0 : 0 ≤ n) (hn : n < 256) :
    Calls Try.prog 14 #[.agg (enc s), .int .i64 n] w fun e w' => e = .returned (.agg (enc (del s n.toNat))) ∧ Below w.heap.size w w' := by
  obtain ⟨k, rfl⟩ := Int.eq_ofNat_of_zero_le h0
  exact without_raw (enc s) _ k w (by omega) _ (enc_get s (k / 8) (by omega)) (enc_del s k (by omega)) (enc_size _) (enc_one _)


set_option maxRecDepth 100000 in
set_option maxHeartbeats 400000 in
theorem has_raw (A : Array Value) (n : Nat) (w : World) (hn : n < 256) (x : Int) (hx : A[n / 8]? = some (.int .u8 x)) :
    Calls Try.prog 16 #[.agg A, .int .i64 n] w fun e w' => e = .returned (.bool (bits BinOp.and IntKind.u8 (x / 2 ^ (n % 8)) 1 == 1)) ∧ Below w.heap.size w w' := by
  go_enter Try.func16, Try.ntmps16
  go_wp2
  go_ret
  exact ⟨rfl, (Below.refl _ _).alloc (Nat.le_refl _) _⟩

theorem has_in (s : Nat → Bool) (n : Int) (w : World) (h0 : 0 ≤ n) (hn : n < 256) :
    Calls Try.prog 16 #[.agg (enc s), .int .i64 n] w fun e w' => e = .returned (.bool (s n.toNat)) ∧ Below w.heap.size w w' := by
  obtain ⟨k, rfl⟩ := Int.eq_ofNat_of_zero_le h0
  refine (has_raw (enc s) k w (by omega) _ (enc_get s (k / 8) (by omega))).mono fun e w' ⟨he, hb⟩ => ⟨?_, hb⟩
  rw [he]
  unfold byteAt
  rw [byteN_shr _ _ (by omega)]
  have e1 : 8 * (k / 8) + k % 8 = k := by omega
  rw [e1]
  simp only [Int.toNat_natCast]
  cases s k <;> rfl

theorem ret_int {k : IntKind} {a b : Int} (h : a = b) : Ending.returned (.int k a) = .returned (.int k b) := by rw [h]

set_option maxRecDepth 100000 in
set_option maxHeartbeats 400000 in
theorem ones8_any (x : Int) (w : World) (h0 : 0 ≤ x) (h1 : x < 256) :
    Calls Try.prog 32 #[.int .u8 x] w fun e w' => e = .returned (.int .i64 (pop8 x.toNat)) ∧ w = w' := by
  go_enter Try.func32, Try.ntmps32
  go_wp2
  go_ret
  refine ⟨ret_int ?_, rfl⟩
  obtain ⟨k, rfl⟩ : ∃ k : Fin 256, x = (k.val : Int) := ⟨⟨x.toNat, by omega⟩, by simp; omega⟩
  revert h0 h1 k
  decide +kernel

end Go.Proofs.Ytnmfbhiooccgfaa
