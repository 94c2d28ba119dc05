/- BitsPut: for every set and all sectors the statement returns true and leaves its arguments alone. No conditions. -/
import Derived.Test.YtnmfbhiooccgfaaGrow
import Derived.Test.YtnmfbhiooccgfaaInv
import Derived.Test.YtnmfbhiooccgfaaBitsListP
import Derived.Test.YtnmfbhiooccgfaaOpenSet
namespace Go.Proofs.Ytnmfbhiooccgfaa
open Go.ChangeShapes Go.WideShapes Go.ChangeAt Go.RowKit

def putFrame (A : Array Value) (n m : Nat) (n0 m0 : Int) (g : Nat) (s7 s8 s15 s16 s17 s18 s19 s20 : Value) : Act := { tmps := #[.agg A, .int .i64 n, .int .i64 m, .pointer (some ⟨g, 0, none⟩), undef, undef, .bool false, s7, s8, .bool true, .bool false, .int .i64 n0, .int .i64 n, .int .i64 m0, .int .i64 m, s15, s16, s17, s18, s19, s20, undef, undef, undef, undef, undef, undef, undef, undef, undef, undef, undef, undef, undef, undef, undef, undef, undef, undef, undef, undef, undef, undef, undef, undef, undef, undef, undef, undef, undef, undef, undef, undef, undef, undef, undef, undef, undef, undef, undef, undef, undef, undef, undef, undef, undef, undef, undef, undef, undef, undef, undef, undef, undef, undef], defers := [] }
def putI (A : Array Value) (n m : Nat) (n0 m0 : Int) (g : Nat) (A1 B1 : Array Value) (w1 : World) (D : Nat → Bool) (a : Act) (w : World) : Prop :=
  ∃ s7 s8 s15 s16 s17 s18 s19 s20 : Value, a = putFrame A n m n0 m0 g s7 s8 s15 s16 s17 s18 s19 s20 ∧ Below w1.heap.size w1 w ∧ (D 0 = true → s15 = .agg A) ∧ (D 1 = true → s16 = .int .i64 n) ∧ (D 2 = true → s17 = (.agg A1)) ∧ (D 3 = true → s18 = .agg A) ∧ (D 4 = true → s19 = .int .i64 n) ∧ (D 5 = true → s20 = (.agg B1)) ∧ (D 6 = true → (∃ g Z, s7 = .pointer (some ⟨g, 0, none⟩) ∧ w1.heap.size ≤ g ∧ w.heap[g]? = some (.cells Z 23 (0, 0)) ∧ Z.size = 32 ∧ (D 8 = true → Z = A1))) ∧ (D 7 = true → (∃ g Z, s8 = .pointer (some ⟨g, 0, none⟩) ∧ w1.heap.size ≤ g ∧ w.heap[g]? = some (.cells Z 23 (0, 0)) ∧ Z.size = 32 ∧ (D 9 = true → Z = B1))) ∧ (D 8 = true → D 6 = true) ∧ (D 9 = true → D 7 = true) ∧ (D 6 = true → D 7 = true → s7 ≠ s8)

set_option maxRecDepth 100000 in
set_option maxHeartbeats 2000000 in
theorem bitsPut_raw (q : Bool) (s : Nat → Bool) (n m : Nat) (A A1 B1 : Array Value) (HA : Hid (A = enc s)) (H1 : Hid (A1 = enc (ins s n))) (H2 : Hid (B1 = enc (del s n))) (n0 m0 : Int) (Hn : Hid (pk n0 256 = n)) (Hm : Hid (pk m0 256 = m)) (hn : n < 256) (hm : m < 256) (hq : ((n : Int) == (m : Int)) = q) (hnm : q = false → n ≠ m) (w : World) :
    Calls Try.prog 3 #[.agg A, .int .i64 n0, .int .i64 m0] w fun e w' => e = .returned (.bool true) ∧ Below w.heap.size w w' := by
  have HS : Hid (A.size = 32) := by rw [HA.out]; exact enc_size s
  have HS1 : Hid (A1.size = 32) := by rw [H1.out]; exact enc_size _
  have HS2 : Hid (B1.size = 32) := by rw [H2.out]; exact enc_size _
  have HO1 : Hid (A1.all (·.oneCell') = true) := by rw [H1.out]; exact enc_one _
  have HO2 : Hid (B1.all (·.oneCell') = true) := by rw [H2.out]; exact enc_one _
  have HW : Hid (∀ W : World, Calls Try.prog 13 #[.agg A, .int .i64 n] W fun e w' => e = .returned (.agg A1) ∧ Below W.heap.size W w') := fun W => by
    rw [HA.out, H1.out]; exact with_in s n W (by omega) (by omega)
  have HO : Hid (∀ W : World, Calls Try.prog 14 #[.agg A, .int .i64 n] W fun e w' => e = .returned (.agg B1) ∧ Below W.heap.size W w') := fun W => by
    rw [HA.out, H2.out]; exact without_in s n W (by omega) (by omega)
  have hEA : ∀ W, (Op.equalIn 10000 23 (.agg A1) (.agg A1)).run Try.prog W = .ok true W := fun W => by rw [H1.out]; exact run_eql_sets_true (fun _ _ => rfl) W
  have hEB : ∀ W, (Op.equalIn 10000 23 (.agg B1) (.agg B1)).run Try.prog W = .ok true W := fun W => by rw [H2.out]; exact run_eql_sets_true (fun _ _ => rfl) W
  have C1 : Hid (∀ W : World, Calls Try.prog 14 #[.agg A1, .int .i64 n] W fun e w' => e = .returned (.agg B1) ∧ Below W.heap.size W w') := fun W => by
    have := without_in (ins s n) n W (by omega) (by omega)
    rw [Int.toNat_natCast, enc_del_ins, ← H1.out, ← H2.out] at this; exact this
  have C2 : Hid (∀ W : World, Calls Try.prog 13 #[.agg B1, .int .i64 n] W fun e w' => e = .returned (.agg A1) ∧ Below W.heap.size W w') := fun W => by
    have := with_in (del s n) n W (by omega) (by omega)
    rw [Int.toNat_natCast, enc_ins_del, ← H1.out, ← H2.out] at this; exact this
  obtain ⟨c, Hc⟩ : ∃ c : Nat, Hid (c = cntTo (del s n) 256) := ⟨_, rfl⟩
  have hc : c ≤ 256 := by rw [Hc.out]; exact cntTo_le _ _
  have C3 : Hid (∀ W : World, Calls Try.prog 15 #[.agg A1] W fun e w' => e = .returned (.int .i64 (c + 1)) ∧ Below W.heap.size W w') := fun W => by
    have := count_any (ins s n) W
    rw [cnt_ins s n hn, ← Hc.out, ← H1.out] at this; exact this
  have C4 : Hid (∀ W : World, Calls Try.prog 15 #[.agg B1] W fun e w' => e = .returned (.int .i64 c) ∧ Below W.heap.size W w') := fun W => by
    rw [H2.out, Hc.out]; exact count_any _ W
  have C5 : Hid (∀ W : World, Calls Try.prog 16 #[.agg A1, .int .i64 n] W fun e w' => e = .returned (.bool true) ∧ Below W.heap.size W w') := fun W => by
    have := has_in (ins s n) n W (by omega) (by omega)
    rw [Int.toNat_natCast, ← H1.out, show ins s n n = true by simp [ins]] at this; exact this
  have C6 : Hid (∀ W : World, Calls Try.prog 16 #[.agg B1, .int .i64 n] W fun e w' => e = .returned (.bool false) ∧ Below W.heap.size W w') := fun W => by
    have := has_in (del s n) n W (by omega) (by omega)
    rw [Int.toNat_natCast, ← H2.out, show del s n n = false by simp [del]] at this; exact this
  obtain ⟨b, Hb⟩ : ∃ b, Hid (b = s m) := ⟨_, rfl⟩
  have C7 : Hid (n ≠ m → ∀ W : World, Calls Try.prog 16 #[.agg A1, .int .i64 m] W fun e w' => e = .returned (.bool b) ∧ Below W.heap.size W w') := fun h W => by
    have := has_in (ins s n) m W (by omega) (by omega)
    rw [Int.toNat_natCast, ← H1.out, show ins s n m = b by simp [ins, Hb.out, Ne.symm h]] at this; exact this
  have C9 : Hid (n ≠ m → ∀ W : World, Calls Try.prog 16 #[.agg B1, .int .i64 m] W fun e w' => e = .returned (.bool b) ∧ Below W.heap.size W w') := fun h W => by
    have := has_in (del s n) m W (by omega) (by omega)
    rw [Int.toNat_natCast, ← H2.out, show del s n m = b by simp [del, Hb.out, Ne.symm h]] at this; exact this
  have C8 : Hid (∀ W : World, Calls Try.prog 16 #[.agg A, .int .i64 m] W fun e w' => e = .returned (.bool b) ∧ Below W.heap.size W w') := fun W => by
    rw [HA.out, Hb.out]; exact has_in s m W (by omega) (by omega)
  clear Hb
  have HNM := Lib.hid hnm
  clear hnm
  go_enter Try.func3, Try.ntmps3
  go_wp2_with fail
  refine (counted_true _).mono ?_
  rintro e w1 ⟨rfl, hb1⟩
  have k1 := Lib.hid (heap_below hb1 (heap_alloc_new w (.cells A 23)))
  have kB : Below w.heap.size w w1 := ((Below.refl _ _).alloc (Nat.le_refl _) _).trans (hb1.mono (by simp))
  clear hb1
  go_wp2_with fail
  refine (pick_any _ _ _ (by omega) (by omega)).mono ?_
  rw [Hn.out]
  rintro e w' ⟨rfl, rfl⟩
  go_wp2_with fail
  refine (pick_any _ _ _ (by omega) (by omega)).mono ?_
  rw [Hm.out]
  rintro e w' ⟨rfl, rfl⟩
  -- REGION4
  go_wp2_with fail
  refine wp_region_inv (by kernel_rfl) (by kernel_rfl) (putI A n m n0 m0 w.heap.size A1 B1 w1) ?_ ?_ ?_
  · exact ⟨_, _, _, _, _, _, _, _, rfl, (Below.refl _ _).drew, by simp, by simp, by simp, by simp, by simp, by simp, by simp, by simp, by simp, by simp, by simp⟩
  · intro D a u hI i o ho hD ha
    obtain ⟨s7, s8, s15, s16, s17, s18, s19, s20, rfl, hB, f0, f1, f2, f3, f4, f5, f6, f7, k6, k7, d7_8⟩ := hI
    match i, ho, hD, ha with
    | 0, ho, hD, ha =>
      simp only [List.getElem?_cons_zero, Option.some.injEq] at ho
      subst ho
      refine step_plain rfl ?_
      refine wp_load_row 23 (.tmp 3) rfl w.heap.size rfl 23 A (0, 0) _ (heap_below hB k1.out) setT rfl (by rw [HS.out]; exact setI) ?_
      exact ⟨s7, s8, _, s16, s17, s18, s19, s20, rfl, hB, fun _ => rfl, fun h => f1 (of_upd h (by decide)), fun h => f2 (of_upd h (by decide)), fun h => f3 (of_upd h (by decide)), fun h => f4 (of_upd h (by decide)), fun h => f5 (of_upd h (by decide)), fun h => by
          obtain ⟨g, Z, h1, h2, h3, h4, h5⟩ := f6 (of_upd h (by decide))
          exact ⟨g, Z, h1, h2, h3, h4, fun h6 => h5 (of_upd h6 (by decide))⟩, fun h => by
          obtain ⟨g, Z, h1, h2, h3, h4, h5⟩ := f7 (of_upd h (by decide))
          exact ⟨g, Z, h1, h2, h3, h4, fun h6 => h5 (of_upd h6 (by decide))⟩, fun h => by rw [upd_ne (by decide)]; exact k6 (of_upd h (by decide)), fun h => by rw [upd_ne (by decide)]; exact k7 (of_upd h (by decide)), fun h h' => d7_8 (of_upd h (by decide)) (of_upd h' (by decide))⟩
    | 1, ho, hD, ha =>
      simp only [List.getElem?_cons_zero, List.getElem?_cons_succ, Option.some.injEq] at ho
      subst ho
      refine step_plain rfl ?_
      refine wp_move_op (.tmp 1) rfl ?_
      exact ⟨s7, s8, s15, _, s17, s18, s19, s20, rfl, hB, fun h => f0 (of_upd h (by decide)), fun _ => rfl, fun h => f2 (of_upd h (by decide)), fun h => f3 (of_upd h (by decide)), fun h => f4 (of_upd h (by decide)), fun h => f5 (of_upd h (by decide)), fun h => by
          obtain ⟨g, Z, h1, h2, h3, h4, h5⟩ := f6 (of_upd h (by decide))
          exact ⟨g, Z, h1, h2, h3, h4, fun h6 => h5 (of_upd h6 (by decide))⟩, fun h => by
          obtain ⟨g, Z, h1, h2, h3, h4, h5⟩ := f7 (of_upd h (by decide))
          exact ⟨g, Z, h1, h2, h3, h4, fun h6 => h5 (of_upd h6 (by decide))⟩, fun h => by rw [upd_ne (by decide)]; exact k6 (of_upd h (by decide)), fun h => by rw [upd_ne (by decide)]; exact k7 (of_upd h (by decide)), fun h h' => d7_8 (of_upd h (by decide)) (of_upd h' (by decide))⟩
    | 2, ho, hD, ha =>
      simp only [List.getElem?_cons_zero, List.getElem?_cons_succ, Option.some.injEq] at ho
      subst ho
      refine step_plain rfl ?_
      have e0 : D 0 = true := ha ⟨0, .data⟩ (by simp) rfl
      have e1 : D 1 = true := ha ⟨1, .data⟩ (by simp) rfl
      obtain rfl := f0 e0
      obtain rfl := f1 e1
      refine wp_call_op 13 #[.tmp 15, .tmp 16] #[23, 3] rfl (fun _ _ => by kernel_rfl) #[.agg A, .int .i64 n] (by kernel_rfl) (.agg A1) (fun w' => Below u.heap.size u w') (HW.out u) ?_
      intro w' hb
      exact ⟨s7, s8, _, _, _, s18, s19, s20, rfl, Below.step hB hb, fun _ => rfl, fun _ => rfl, fun _ => rfl, fun h => f3 (of_upd h (by decide)), fun h => f4 (of_upd h (by decide)), fun h => f5 (of_upd h (by decide)), fun h => by
          obtain ⟨g, Z, h1, h2, h3, h4, h5⟩ := f6 (of_upd h (by decide))
          exact ⟨g, Z, h1, h2, heap_below hb h3, h4, fun h6 => h5 (of_upd h6 (by decide))⟩, fun h => by
          obtain ⟨g, Z, h1, h2, h3, h4, h5⟩ := f7 (of_upd h (by decide))
          exact ⟨g, Z, h1, h2, heap_below hb h3, h4, fun h6 => h5 (of_upd h6 (by decide))⟩, fun h => by rw [upd_ne (by decide)]; exact k6 (of_upd h (by decide)), fun h => by rw [upd_ne (by decide)]; exact k7 (of_upd h (by decide)), fun h h' => d7_8 (of_upd h (by decide)) (of_upd h' (by decide))⟩
    | 3, ho, hD, ha =>
      simp only [List.getElem?_cons_zero, List.getElem?_cons_succ, Option.some.injEq] at ho
      subst ho
      refine step_plain rfl ?_
      refine wp_load_row 23 (.tmp 3) rfl w.heap.size rfl 23 A (0, 0) _ (heap_below hB k1.out) setT rfl (by rw [HS.out]; exact setI) ?_
      exact ⟨s7, s8, s15, s16, s17, _, s19, s20, rfl, hB, fun h => f0 (of_upd h (by decide)), fun h => f1 (of_upd h (by decide)), fun h => f2 (of_upd h (by decide)), fun _ => rfl, fun h => f4 (of_upd h (by decide)), fun h => f5 (of_upd h (by decide)), fun h => by
          obtain ⟨g, Z, h1, h2, h3, h4, h5⟩ := f6 (of_upd h (by decide))
          exact ⟨g, Z, h1, h2, h3, h4, fun h6 => h5 (of_upd h6 (by decide))⟩, fun h => by
          obtain ⟨g, Z, h1, h2, h3, h4, h5⟩ := f7 (of_upd h (by decide))
          exact ⟨g, Z, h1, h2, h3, h4, fun h6 => h5 (of_upd h6 (by decide))⟩, fun h => by rw [upd_ne (by decide)]; exact k6 (of_upd h (by decide)), fun h => by rw [upd_ne (by decide)]; exact k7 (of_upd h (by decide)), fun h h' => d7_8 (of_upd h (by decide)) (of_upd h' (by decide))⟩
    | 4, ho, hD, ha =>
      simp only [List.getElem?_cons_zero, List.getElem?_cons_succ, Option.some.injEq] at ho
      subst ho
      refine step_plain rfl ?_
      refine wp_move_op (.tmp 1) rfl ?_
      exact ⟨s7, s8, s15, s16, s17, s18, _, s20, rfl, hB, fun h => f0 (of_upd h (by decide)), fun h => f1 (of_upd h (by decide)), fun h => f2 (of_upd h (by decide)), fun h => f3 (of_upd h (by decide)), fun _ => rfl, fun h => f5 (of_upd h (by decide)), fun h => by
          obtain ⟨g, Z, h1, h2, h3, h4, h5⟩ := f6 (of_upd h (by decide))
          exact ⟨g, Z, h1, h2, h3, h4, fun h6 => h5 (of_upd h6 (by decide))⟩, fun h => by
          obtain ⟨g, Z, h1, h2, h3, h4, h5⟩ := f7 (of_upd h (by decide))
          exact ⟨g, Z, h1, h2, h3, h4, fun h6 => h5 (of_upd h6 (by decide))⟩, fun h => by rw [upd_ne (by decide)]; exact k6 (of_upd h (by decide)), fun h => by rw [upd_ne (by decide)]; exact k7 (of_upd h (by decide)), fun h h' => d7_8 (of_upd h (by decide)) (of_upd h' (by decide))⟩
    | 5, ho, hD, ha =>
      simp only [List.getElem?_cons_zero, List.getElem?_cons_succ, Option.some.injEq] at ho
      subst ho
      refine step_plain rfl ?_
      have e3 : D 3 = true := ha ⟨3, .data⟩ (by simp) rfl
      have e4 : D 4 = true := ha ⟨4, .data⟩ (by simp) rfl
      obtain rfl := f3 e3
      obtain rfl := f4 e4
      refine wp_call_op 14 #[.tmp 18, .tmp 19] #[23, 3] rfl (fun _ _ => by kernel_rfl) #[.agg A, .int .i64 n] (by kernel_rfl) (.agg B1) (fun w' => Below u.heap.size u w') (HO.out u) ?_
      intro w' hb
      exact ⟨s7, s8, s15, s16, s17, _, _, _, rfl, Below.step hB hb, fun h => f0 (of_upd h (by decide)), fun h => f1 (of_upd h (by decide)), fun h => f2 (of_upd h (by decide)), fun _ => rfl, fun _ => rfl, fun _ => rfl, fun h => by
          obtain ⟨g, Z, h1, h2, h3, h4, h5⟩ := f6 (of_upd h (by decide))
          exact ⟨g, Z, h1, h2, heap_below hb h3, h4, fun h6 => h5 (of_upd h6 (by decide))⟩, fun h => by
          obtain ⟨g, Z, h1, h2, h3, h4, h5⟩ := f7 (of_upd h (by decide))
          exact ⟨g, Z, h1, h2, heap_below hb h3, h4, fun h6 => h5 (of_upd h6 (by decide))⟩, fun h => by rw [upd_ne (by decide)]; exact k6 (of_upd h (by decide)), fun h => by rw [upd_ne (by decide)]; exact k7 (of_upd h (by decide)), fun h h' => d7_8 (of_upd h (by decide)) (of_upd h' (by decide))⟩
    | 6, ho, hD, ha =>
      simp only [List.getElem?_cons_zero, List.getElem?_cons_succ, Option.some.injEq] at ho
      subst ho
      refine step_plain rfl ?_
      have hst : D 8 = true → D 6 = true := fun h => k6 h
      refine wp_alloc_op 23 rfl (enc emp) setZ ?_
      exact ⟨_, s8, s15, s16, s17, s18, s19, s20, rfl, hB.alloc hB.size _, fun h => f0 (of_upd h (by decide)), fun h => f1 (of_upd h (by decide)), fun h => f2 (of_upd h (by decide)), fun h => f3 (of_upd h (by decide)), fun h => f4 (of_upd h (by decide)), fun h => f5 (of_upd h (by decide)), fun _ => ⟨u.heap.size, (enc emp), rfl, hB.size, heap_alloc_new _ _, enc_size _, fun h6 => by have := hst (of_upd h6 (by decide)); rw [hD] at this; cases this⟩, fun h => by
          obtain ⟨g, Z, h1, h2, h3, h4, h5⟩ := f7 (of_upd h (by decide))
          exact ⟨g, Z, h1, h2, heap_alloc_keep h3 _, h4, fun h6 => h5 (of_upd h6 (by decide))⟩, fun _ => upd_self _ _, fun h => by rw [upd_ne (by decide)]; exact k7 (of_upd h (by decide)), fun h h' e => by
          obtain ⟨g, Z, h1, h2, h3, h4, h5⟩ := f7 (of_upd h' (by decide))
          rw [h1] at e
          have := heap_lt h3
          simp at e <;> omega⟩
    | 7, ho, hD, ha =>
      simp only [List.getElem?_cons_zero, List.getElem?_cons_succ, Option.some.injEq] at ho
      subst ho
      refine step_plain rfl ?_
      have hst : D 9 = true → D 7 = true := fun h => k7 h
      refine wp_alloc_op 23 rfl (enc emp) setZ ?_
      exact ⟨s7, _, s15, s16, s17, s18, s19, s20, rfl, hB.alloc hB.size _, fun h => f0 (of_upd h (by decide)), fun h => f1 (of_upd h (by decide)), fun h => f2 (of_upd h (by decide)), fun h => f3 (of_upd h (by decide)), fun h => f4 (of_upd h (by decide)), fun h => f5 (of_upd h (by decide)), fun h => by
          obtain ⟨g, Z, h1, h2, h3, h4, h5⟩ := f6 (of_upd h (by decide))
          exact ⟨g, Z, h1, h2, heap_alloc_keep h3 _, h4, fun h6 => h5 (of_upd h6 (by decide))⟩, fun _ => ⟨u.heap.size, (enc emp), rfl, hB.size, heap_alloc_new _ _, enc_size _, fun h6 => by have := hst (of_upd h6 (by decide)); rw [hD] at this; cases this⟩, fun h => by rw [upd_ne (by decide)]; exact k6 (of_upd h (by decide)), fun _ => upd_self _ _, fun h h' e => by
          obtain ⟨g, Z, h1, h2, h3, h4, h5⟩ := f6 (of_upd h (by decide))
          rw [h1] at e
          have := heap_lt h3
          simp at e <;> omega⟩
    | 8, ho, hD, ha =>
      simp only [List.getElem?_cons_zero, List.getElem?_cons_succ, Option.some.injEq] at ho
      subst ho
      refine step_plain rfl ?_
      have e2 : D 2 = true := ha ⟨2, .data⟩ (by simp) rfl
      have e6 : D 6 = true := ha ⟨6, .data⟩ (by simp) rfl
      obtain ⟨g, Z, rfl, h2, h3, h4, h5⟩ := f6 e6
      obtain rfl := f2 e2
      refine wp_store_row 23 (.tmp 7) (.tmp 17) rfl g A1 rfl rfl 23 Z h3 (by rw [HS1.out]; exact setI) (by rw [h4, HS1.out]) HO1.out ?_
      exact ⟨_, s8, s15, s16, _, s18, s19, s20, rfl, Below.setRow hB h2 _, fun h => f0 (of_upd h (by decide)), fun h => f1 (of_upd h (by decide)), fun _ => rfl, fun h => f3 (of_upd h (by decide)), fun h => f4 (of_upd h (by decide)), fun h => f5 (of_upd h (by decide)), fun _ => ⟨g, _, rfl, h2, setRow_heap _ _ _ _ _ _ h3, HS1.out, fun _ => rfl⟩, fun h => by
          obtain ⟨g', Z', h1', h2', h3', h4', h5'⟩ := f7 (of_upd h (by decide))
          exact ⟨g', Z', h1', h2', heap_setRow_keep h3' _ _ (fun e => d7_8 e6 (of_upd h (by decide)) (by rw [h1', e])), h4', fun h6 => h5' (of_upd h6 (by decide))⟩, fun _ => by rw [upd_ne (by decide)]; exact e6, fun h => by rw [upd_ne (by decide)]; exact k7 (of_upd h (by decide)), fun h h' => d7_8 (of_upd h (by decide)) (of_upd h' (by decide))⟩
    | 9, ho, hD, ha =>
      simp only [List.getElem?_cons_zero, List.getElem?_cons_succ, Option.some.injEq] at ho
      subst ho
      refine step_plain rfl ?_
      have e5 : D 5 = true := ha ⟨5, .data⟩ (by simp) rfl
      have e7 : D 7 = true := ha ⟨7, .data⟩ (by simp) rfl
      obtain ⟨g, Z, rfl, h2, h3, h4, h5⟩ := f7 e7
      obtain rfl := f5 e5
      refine wp_store_row 23 (.tmp 8) (.tmp 20) rfl g B1 rfl rfl 23 Z h3 (by rw [HS2.out]; exact setI) (by rw [h4, HS2.out]) HO2.out ?_
      exact ⟨s7, _, s15, s16, s17, s18, s19, _, rfl, Below.setRow hB h2 _, fun h => f0 (of_upd h (by decide)), fun h => f1 (of_upd h (by decide)), fun h => f2 (of_upd h (by decide)), fun h => f3 (of_upd h (by decide)), fun h => f4 (of_upd h (by decide)), fun _ => rfl, fun h => by
          obtain ⟨g', Z', h1', h2', h3', h4', h5'⟩ := f6 (of_upd h (by decide))
          exact ⟨g', Z', h1', h2', heap_setRow_keep h3' _ _ (fun e => d7_8 (of_upd h (by decide)) e7 (by rw [h1', e])), h4', fun h6 => h5' (of_upd h6 (by decide))⟩, fun _ => ⟨g, _, rfl, h2, setRow_heap _ _ _ _ _ _ h3, HS2.out, fun _ => rfl⟩, fun h => by rw [upd_ne (by decide)]; exact k6 (of_upd h (by decide)), fun _ => by rw [upd_ne (by decide)]; exact e7, fun h h' => d7_8 (of_upd h (by decide)) (of_upd h' (by decide))⟩
    | i + 10, ho, hD, ha => simp at ho
  · intro D a w4 hI hall
    obtain ⟨s7, s8, s15, s16, s17, s18, s19, s20, rfl, hB, f0, f1, f2, f3, f4, f5, f6, f7, k6, k7, d7_8⟩ := hI
    obtain rfl := f0 (hall 0 (by decide))
    obtain rfl := f1 (hall 1 (by decide))
    obtain rfl := f2 (hall 2 (by decide))
    obtain rfl := f3 (hall 3 (by decide))
    obtain rfl := f4 (hall 4 (by decide))
    obtain rfl := f5 (hall 5 (by decide))
    obtain ⟨g7, Z7, rfl, _, h7, _, e7⟩ := f6 (hall 6 (by decide))
    obtain ⟨g8, Z8, rfl, _, h8, _, e8⟩ := f7 (hall 7 (by decide))
    obtain rfl := (e7 (hall 8 (by decide))).symm
    obtain rfl := (e8 (hall 9 (by decide))).symm
    have q7 := Lib.hid h7
    have q8 := Lib.hid h8
    have q0 := Lib.hid (heap_below hB k1.out)
    have qB := Below.step kB hB
    clear f0 f1 f2 f3 f4 f5 f6 f7 k6 k7 d7_8 e7 e8 h7 h8 hB k1 kB hall
    unfold putFrame
    go_wp2_with fail
    cases q
    · have hnm : n ≠ m := HNM.out rfl
      refine wp_region_quiet_below (by kernel_rfl) (by kernel_rfl) ?_
      repeat (first
        | go_big_quiet_skip
        | (refine wpQuiet_load_row rfl 23 (.tmp 7) rfl g7 rfl 23 A1 (0, 0) _ (fun _ hw => grown_heap hw q7.out) setT rfl (by rw [HS1.out]; exact setI) ?_; simp only [Act.put, List.setIfInBounds_toArray, List.set_cons_zero, List.set_cons_succ])
        | (refine wpQuiet_load_row rfl 23 (.tmp 8) rfl g8 rfl 23 B1 (0, 0) _ (fun _ hw => grown_heap hw q8.out) setT rfl (by rw [HS2.out]; exact setI) ?_; simp only [Act.put, List.setIfInBounds_toArray, List.set_cons_zero, List.set_cons_succ])
        | (refine wpQuiet_load_row rfl 23 (.tmp 3) rfl w.heap.size rfl 23 A (0, 0) _ (fun _ hw => grown_heap hw q0.out) setT rfl (by rw [HS.out]; exact setI) ?_; simp only [Act.put, List.setIfInBounds_toArray, List.set_cons_zero, List.set_cons_succ])
        | (refine wpQuiet_run rfl (.bool true) (run_eql_agg 23 23 (.tmp 23) (.tmp 24) rfl B1 B1 rfl rfl true hEB setG) ?_; simp only [Act.put, List.setIfInBounds_toArray, List.set_cons_zero, List.set_cons_succ])
        | (refine wpQuiet_run rfl (.bool true) (run_eql_agg 23 23 (.tmp 29) (.tmp 30) rfl A1 A1 rfl rfl true hEA setG) ?_; simp only [Act.put, List.setIfInBounds_toArray, List.set_cons_zero, List.set_cons_succ])
        | (refine wpQuiet_call 14 #[.tmp 21, .tmp 22] #[23, 3] rfl rfl (fun _ _ => by kernel_rfl) #[.agg A1, .int .i64 n] (by kernel_rfl) (.agg B1) (fun _ _ => grown_step) (fun w' _ => C1.out w') ?_; simp only [Act.put, List.setIfInBounds_toArray, List.set_cons_zero, List.set_cons_succ])
        | (refine wpQuiet_call 13 #[.tmp 27, .tmp 28] #[23, 3] rfl rfl (fun _ _ => by kernel_rfl) #[.agg B1, .int .i64 n] (by kernel_rfl) (.agg A1) (fun _ _ => grown_step) (fun w' _ => C2.out w') ?_; simp only [Act.put, List.setIfInBounds_toArray, List.set_cons_zero, List.set_cons_succ])
        | (refine wpQuiet_call 15 #[.tmp 34] #[23] rfl rfl (fun _ _ => by kernel_rfl) #[.agg A1] (by kernel_rfl) (.int .i64 (c + 1)) (fun _ _ => grown_step) (fun w' _ => C3.out w') ?_; simp only [Act.put, List.setIfInBounds_toArray, List.set_cons_zero, List.set_cons_succ])
        | (refine wpQuiet_call 15 #[.tmp 36] #[23] rfl rfl (fun _ _ => by kernel_rfl) #[.agg B1] (by kernel_rfl) (.int .i64 c) (fun _ _ => grown_step) (fun w' _ => C4.out w') ?_; simp only [Act.put, List.setIfInBounds_toArray, List.set_cons_zero, List.set_cons_succ])
        | (refine wpQuiet_call 16 #[.tmp 42, .tmp 43] #[23, 3] rfl rfl (fun _ _ => by kernel_rfl) #[.agg A1, .int .i64 n] (by kernel_rfl) (.bool true) (fun _ _ => grown_step) (fun w' _ => C5.out w') ?_; simp only [Act.put, List.setIfInBounds_toArray, List.set_cons_zero, List.set_cons_succ])
        | (refine wpQuiet_call 16 #[.tmp 47, .tmp 48] #[23, 3] rfl rfl (fun _ _ => by kernel_rfl) #[.agg B1, .int .i64 n] (by kernel_rfl) (.bool false) (fun _ _ => grown_step) (fun w' _ => C6.out w') ?_; simp only [Act.put, List.setIfInBounds_toArray, List.set_cons_zero, List.set_cons_succ])
        | (refine wpQuiet_call 16 #[.tmp 57, .tmp 58] #[23, 3] rfl rfl (fun _ _ => by kernel_rfl) #[.agg A1, .int .i64 m] (by kernel_rfl) (.bool b) (fun _ _ => grown_step) (fun w' _ => (C7.out hnm) w') ?_; simp only [Act.put, List.setIfInBounds_toArray, List.set_cons_zero, List.set_cons_succ])
        | (refine wpQuiet_call 16 #[.tmp 60, .tmp 61] #[23, 3] rfl rfl (fun _ _ => by kernel_rfl) #[.agg A, .int .i64 m] (by kernel_rfl) (.bool b) (fun _ _ => grown_step) (fun w' _ => C8.out w') ?_; simp only [Act.put, List.setIfInBounds_toArray, List.set_cons_zero, List.set_cons_succ])
        | (refine wpQuiet_call 16 #[.tmp 65, .tmp 66] #[23, 3] rfl rfl (fun _ _ => by kernel_rfl) #[.agg B1, .int .i64 m] (by kernel_rfl) (.bool b) (fun _ _ => grown_step) (fun w' _ => (C9.out hnm) w') ?_; simp only [Act.put, List.setIfInBounds_toArray, List.set_cons_zero, List.set_cons_succ])
        | (refine wpQuiet_call 16 #[.tmp 68, .tmp 69] #[23, 3] rfl rfl (fun _ _ => by kernel_rfl) #[.agg A, .int .i64 m] (by kernel_rfl) (.bool b) (fun _ _ => grown_step) (fun w' _ => C8.out w') ?_; simp only [Act.put, List.setIfInBounds_toArray, List.set_cons_zero, List.set_cons_succ])
        | (refine wpQuiet_pick _ _ _ rfl rfl true (.bool true) rfl rfl ?_; simp only [Act.put, List.setIfInBounds_toArray, List.set_cons_zero, List.set_cons_succ])
        | (go_big_quiet_want; go_big_quiet_op; go_big_quiet_on))
      refine wpQuiet_nil ?_
      intro w5 hw5
      go_wp2
      go_ret
      exact ⟨rfl, Below.step qB (grown_below hw5)⟩
    · clear HNM
      refine wp_region_quiet_below (by kernel_rfl) (by kernel_rfl) ?_
      repeat (first
        | go_big_quiet_skip
        | (refine wpQuiet_load_row rfl 23 (.tmp 7) rfl g7 rfl 23 A1 (0, 0) _ (fun _ hw => grown_heap hw q7.out) setT rfl (by rw [HS1.out]; exact setI) ?_; simp only [Act.put, List.setIfInBounds_toArray, List.set_cons_zero, List.set_cons_succ])
        | (refine wpQuiet_load_row rfl 23 (.tmp 8) rfl g8 rfl 23 B1 (0, 0) _ (fun _ hw => grown_heap hw q8.out) setT rfl (by rw [HS2.out]; exact setI) ?_; simp only [Act.put, List.setIfInBounds_toArray, List.set_cons_zero, List.set_cons_succ])
        | (refine wpQuiet_load_row rfl 23 (.tmp 3) rfl w.heap.size rfl 23 A (0, 0) _ (fun _ hw => grown_heap hw q0.out) setT rfl (by rw [HS.out]; exact setI) ?_; simp only [Act.put, List.setIfInBounds_toArray, List.set_cons_zero, List.set_cons_succ])
        | (refine wpQuiet_run rfl (.bool true) (run_eql_agg 23 23 (.tmp 23) (.tmp 24) rfl B1 B1 rfl rfl true hEB setG) ?_; simp only [Act.put, List.setIfInBounds_toArray, List.set_cons_zero, List.set_cons_succ])
        | (refine wpQuiet_run rfl (.bool true) (run_eql_agg 23 23 (.tmp 29) (.tmp 30) rfl A1 A1 rfl rfl true hEA setG) ?_; simp only [Act.put, List.setIfInBounds_toArray, List.set_cons_zero, List.set_cons_succ])
        | (refine wpQuiet_call 14 #[.tmp 21, .tmp 22] #[23, 3] rfl rfl (fun _ _ => by kernel_rfl) #[.agg A1, .int .i64 n] (by kernel_rfl) (.agg B1) (fun _ _ => grown_step) (fun w' _ => C1.out w') ?_; simp only [Act.put, List.setIfInBounds_toArray, List.set_cons_zero, List.set_cons_succ])
        | (refine wpQuiet_call 13 #[.tmp 27, .tmp 28] #[23, 3] rfl rfl (fun _ _ => by kernel_rfl) #[.agg B1, .int .i64 n] (by kernel_rfl) (.agg A1) (fun _ _ => grown_step) (fun w' _ => C2.out w') ?_; simp only [Act.put, List.setIfInBounds_toArray, List.set_cons_zero, List.set_cons_succ])
        | (refine wpQuiet_call 15 #[.tmp 34] #[23] rfl rfl (fun _ _ => by kernel_rfl) #[.agg A1] (by kernel_rfl) (.int .i64 (c + 1)) (fun _ _ => grown_step) (fun w' _ => C3.out w') ?_; simp only [Act.put, List.setIfInBounds_toArray, List.set_cons_zero, List.set_cons_succ])
        | (refine wpQuiet_call 15 #[.tmp 36] #[23] rfl rfl (fun _ _ => by kernel_rfl) #[.agg B1] (by kernel_rfl) (.int .i64 c) (fun _ _ => grown_step) (fun w' _ => C4.out w') ?_; simp only [Act.put, List.setIfInBounds_toArray, List.set_cons_zero, List.set_cons_succ])
        | (refine wpQuiet_call 16 #[.tmp 42, .tmp 43] #[23, 3] rfl rfl (fun _ _ => by kernel_rfl) #[.agg A1, .int .i64 n] (by kernel_rfl) (.bool true) (fun _ _ => grown_step) (fun w' _ => C5.out w') ?_; simp only [Act.put, List.setIfInBounds_toArray, List.set_cons_zero, List.set_cons_succ])
        | (refine wpQuiet_call 16 #[.tmp 47, .tmp 48] #[23, 3] rfl rfl (fun _ _ => by kernel_rfl) #[.agg B1, .int .i64 n] (by kernel_rfl) (.bool false) (fun _ _ => grown_step) (fun w' _ => C6.out w') ?_; simp only [Act.put, List.setIfInBounds_toArray, List.set_cons_zero, List.set_cons_succ])
        | (refine wpQuiet_call 16 #[.tmp 57, .tmp 58] #[23, 3] rfl rfl (fun _ _ => by kernel_rfl) #[.agg A1, .int .i64 m] (by kernel_rfl) (.bool b) (fun _ _ => grown_step) (fun w' _ => (C7.out hnm) w') ?_; simp only [Act.put, List.setIfInBounds_toArray, List.set_cons_zero, List.set_cons_succ])
        | (refine wpQuiet_call 16 #[.tmp 60, .tmp 61] #[23, 3] rfl rfl (fun _ _ => by kernel_rfl) #[.agg A, .int .i64 m] (by kernel_rfl) (.bool b) (fun _ _ => grown_step) (fun w' _ => C8.out w') ?_; simp only [Act.put, List.setIfInBounds_toArray, List.set_cons_zero, List.set_cons_succ])
        | (refine wpQuiet_call 16 #[.tmp 65, .tmp 66] #[23, 3] rfl rfl (fun _ _ => by kernel_rfl) #[.agg B1, .int .i64 m] (by kernel_rfl) (.bool b) (fun _ _ => grown_step) (fun w' _ => (C9.out hnm) w') ?_; simp only [Act.put, List.setIfInBounds_toArray, List.set_cons_zero, List.set_cons_succ])
        | (refine wpQuiet_call 16 #[.tmp 68, .tmp 69] #[23, 3] rfl rfl (fun _ _ => by kernel_rfl) #[.agg A, .int .i64 m] (by kernel_rfl) (.bool b) (fun _ _ => grown_step) (fun w' _ => C8.out w') ?_; simp only [Act.put, List.setIfInBounds_toArray, List.set_cons_zero, List.set_cons_succ])
        | (refine wpQuiet_pick _ _ _ rfl rfl true (.bool true) rfl rfl ?_; simp only [Act.put, List.setIfInBounds_toArray, List.set_cons_zero, List.set_cons_succ])
        | (go_big_quiet_want; go_big_quiet_op; go_big_quiet_on))
      refine wpQuiet_nil ?_
      intro w5 hw5
      go_wp2
      go_ret
      exact ⟨rfl, Below.step qB (grown_below hw5)⟩

end Go.Proofs.Ytnmfbhiooccgfaa
