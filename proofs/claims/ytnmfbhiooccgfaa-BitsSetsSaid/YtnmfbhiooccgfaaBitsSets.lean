/- BitsSets: for all sets the statement returns true and leaves its arguments alone. No conditions. -/
import Derived.Test.YtnmfbhiooccgfaaGrow
import Derived.Test.YtnmfbhiooccgfaaInv
import Derived.Test.YtnmfbhiooccgfaaBitsListP
import Derived.Test.YtnmfbhiooccgfaaOpenSet
namespace Go.Proofs.Ytnmfbhiooccgfaa
open Go.ChangeShapes Go.WideShapes Go.ChangeAt Go.RowKit

theorem cnt_incl (a b : Nat → Bool) : ∀ k, cntTo a k + cntTo b k = cntTo (join a b) k + cntTo (less a (less a b)) k
  | 0 => rfl
  | k + 1 => by
    have := cnt_incl a b k
    simp only [cntTo, join, less]
    cases a k <;> cases b k <;> simp [b2] <;> omega

def setsFrame (A B C : Array Value) (g : Nat) (s7 s10 s11 s12 s13 s14 : Value) : Act := { tmps := #[.agg A, .agg B, .agg C, .pointer (some ⟨g, 0, none⟩), .pointer (some ⟨g + 1, 0, none⟩), .pointer (some ⟨g + 2, 0, none⟩), .bool false, s7, .bool true, .bool false, s10, s11, s12, s13, s14, undef, undef, undef, undef, undef, undef, undef, undef, undef, undef, undef, undef, undef, undef, undef, undef, undef, undef, undef, undef, undef, undef, undef, undef, undef, undef, undef, undef, undef, undef, undef, undef, undef, undef, undef, undef, undef, undef, undef, undef, undef, undef, undef, undef, undef, undef, undef, undef, undef, undef, undef, undef, undef, undef, undef, undef, undef, undef, undef, undef, undef, undef, undef, undef, undef, undef, undef, undef, undef, undef, undef, undef, undef, undef, undef], defers := [] }
def setsI (A B C : Array Value) (g : Nat) (AB BO : Array Value) (w1 : World) (D : Nat → Bool) (a : Act) (w : World) : Prop :=
  ∃ s7 s10 s11 s12 s13 s14 : Value, a = setsFrame A B C g s7 s10 s11 s12 s13 s14 ∧ Below w1.heap.size w1 w ∧ (D 0 = true → s10 = .agg A) ∧ (D 1 = true → s11 = .agg A) ∧ (D 2 = true → s12 = .agg B) ∧ (D 3 = true → s13 = (.agg AB)) ∧ (D 4 = true → s14 = (.agg BO)) ∧ (D 5 = true → (∃ g Z, s7 = .pointer (some ⟨g, 0, none⟩) ∧ w1.heap.size ≤ g ∧ w.heap[g]? = some (.cells Z 23 (0, 0)) ∧ Z.size = 32 ∧ (D 6 = true → Z = BO))) ∧ (D 6 = true → D 5 = true)

set_option maxRecDepth 100000 in
set_option maxHeartbeats 4000000 in
theorem bitsSets_raw (a b c : Nat → Bool) (A B C J BC ABC AB BA BO X : Array Value) (HA : Hid (A = enc (a))) (HB : Hid (B = enc (b))) (HC : Hid (C = enc (c))) (HJ : Hid (J = enc (join a b))) (HBC : Hid (BC = enc (join b c))) (HABC : Hid (ABC = enc (join a (join b c)))) (HAB : Hid (AB = enc (less a b))) (HBA : Hid (BA = enc (less b a))) (HBO : Hid (BO = enc (less a (less a b)))) (HX : Hid (X = enc (less a (join b c)))) (w : World) :
    Calls Try.prog 6 #[.agg A, .agg B, .agg C] w fun e w' => e = .returned (.bool true) ∧ Below w.heap.size w w' := by
  have SA : Hid (A.size = 32) := by rw [HA.out]; exact enc_size _
  have EA : ∀ W, (Op.equalIn 10000 23 (.agg A) (.agg A)).run Try.prog W = .ok true W := fun W => by rw [HA.out]; exact run_eql_sets_true (fun _ _ => rfl) W
  have SB : Hid (B.size = 32) := by rw [HB.out]; exact enc_size _
  have EB : ∀ W, (Op.equalIn 10000 23 (.agg B) (.agg B)).run Try.prog W = .ok true W := fun W => by rw [HB.out]; exact run_eql_sets_true (fun _ _ => rfl) W
  have SC : Hid (C.size = 32) := by rw [HC.out]; exact enc_size _
  have EC : ∀ W, (Op.equalIn 10000 23 (.agg C) (.agg C)).run Try.prog W = .ok true W := fun W => by rw [HC.out]; exact run_eql_sets_true (fun _ _ => rfl) W
  have SJ : Hid (J.size = 32) := by rw [HJ.out]; exact enc_size _
  have EJ : ∀ W, (Op.equalIn 10000 23 (.agg J) (.agg J)).run Try.prog W = .ok true W := fun W => by rw [HJ.out]; exact run_eql_sets_true (fun _ _ => rfl) W
  have SBC : Hid (BC.size = 32) := by rw [HBC.out]; exact enc_size _
  have EBC : ∀ W, (Op.equalIn 10000 23 (.agg BC) (.agg BC)).run Try.prog W = .ok true W := fun W => by rw [HBC.out]; exact run_eql_sets_true (fun _ _ => rfl) W
  have SABC : Hid (ABC.size = 32) := by rw [HABC.out]; exact enc_size _
  have EABC : ∀ W, (Op.equalIn 10000 23 (.agg ABC) (.agg ABC)).run Try.prog W = .ok true W := fun W => by rw [HABC.out]; exact run_eql_sets_true (fun _ _ => rfl) W
  have SAB : Hid (AB.size = 32) := by rw [HAB.out]; exact enc_size _
  have EAB : ∀ W, (Op.equalIn 10000 23 (.agg AB) (.agg AB)).run Try.prog W = .ok true W := fun W => by rw [HAB.out]; exact run_eql_sets_true (fun _ _ => rfl) W
  have SBA : Hid (BA.size = 32) := by rw [HBA.out]; exact enc_size _
  have EBA : ∀ W, (Op.equalIn 10000 23 (.agg BA) (.agg BA)).run Try.prog W = .ok true W := fun W => by rw [HBA.out]; exact run_eql_sets_true (fun _ _ => rfl) W
  have SBO : Hid (BO.size = 32) := by rw [HBO.out]; exact enc_size _
  have EBO : ∀ W, (Op.equalIn 10000 23 (.agg BO) (.agg BO)).run Try.prog W = .ok true W := fun W => by rw [HBO.out]; exact run_eql_sets_true (fun _ _ => rfl) W
  have SX : Hid (X.size = 32) := by rw [HX.out]; exact enc_size _
  have EX : ∀ W, (Op.equalIn 10000 23 (.agg X) (.agg X)).run Try.prog W = .ok true W := fun W => by rw [HX.out]; exact run_eql_sets_true (fun _ _ => rfl) W
  have OBO : Hid (BO.all (·.oneCell') = true) := by rw [HBO.out]; exact enc_one _
  have CAB : Hid (∀ W : World, Calls Try.prog 19 #[.agg A, .agg B] W fun e w' => e = .returned (.agg AB) ∧ Below W.heap.size W w') := fun W => by
    have h := less_any (a) (b) W
    rw [← HA.out, ← HB.out, ← HAB.out] at h; exact h
  have CBO : Hid (∀ W : World, Calls Try.prog 19 #[.agg A, .agg AB] W fun e w' => e = .returned (.agg BO) ∧ Below W.heap.size W w') := fun W => by
    have h := less_any (a) (less a b) W
    rw [← HA.out, ← HAB.out, ← HBO.out] at h; exact h
  have CJ : Hid (∀ W : World, Calls Try.prog 20 #[.agg A, .agg B] W fun e w' => e = .returned (.agg J) ∧ Below W.heap.size W w') := fun W => by
    have h := join_any (a) (b) W
    rw [← HA.out, ← HB.out, ← HJ.out] at h; exact h
  have CJ2 : Hid (∀ W : World, Calls Try.prog 20 #[.agg B, .agg A] W fun e w' => e = .returned (.agg J) ∧ Below W.heap.size W w') := fun W => by
    have h := join_any (b) (a) W
    rw [enc_congr (s := join (b) (a)) (t := join a b) (fun m _ => by simp only [join]; cases a m <;> cases b m <;> cases c m <;> rfl), ← HB.out, ← HA.out, ← HJ.out] at h; exact h
  have CBC : Hid (∀ W : World, Calls Try.prog 20 #[.agg B, .agg C] W fun e w' => e = .returned (.agg BC) ∧ Below W.heap.size W w') := fun W => by
    have h := join_any (b) (c) W
    rw [← HB.out, ← HC.out, ← HBC.out] at h; exact h
  have CABC : Hid (∀ W : World, Calls Try.prog 20 #[.agg A, .agg BC] W fun e w' => e = .returned (.agg ABC) ∧ Below W.heap.size W w') := fun W => by
    have h := join_any (a) (join b c) W
    rw [← HA.out, ← HBC.out, ← HABC.out] at h; exact h
  have CABC2 : Hid (∀ W : World, Calls Try.prog 20 #[.agg J, .agg C] W fun e w' => e = .returned (.agg ABC) ∧ Below W.heap.size W w') := fun W => by
    have h := join_any (join a b) (c) W
    rw [enc_congr (s := join (join a b) (c)) (t := join a (join b c)) (fun m _ => by simp only [join]; cases a m <;> cases b m <;> cases c m <;> rfl), ← HJ.out, ← HC.out, ← HABC.out] at h; exact h
  have CAA : Hid (∀ W : World, Calls Try.prog 20 #[.agg A, .agg A] W fun e w' => e = .returned (.agg A) ∧ Below W.heap.size W w') := fun W => by
    have h := join_any (a) (a) W
    rw [enc_congr (s := join (a) (a)) (t := a) (fun m _ => by simp only [join]; cases a m <;> cases b m <;> cases c m <;> rfl), ← HA.out] at h; exact h
  have CJB : Hid (∀ W : World, Calls Try.prog 19 #[.agg J, .agg B] W fun e w' => e = .returned (.agg AB) ∧ Below W.heap.size W w') := fun W => by
    have h := less_any (join a b) (b) W
    rw [enc_congr (s := less (join a b) (b)) (t := less a b) (fun m _ => by simp only [join, less]; cases a m <;> cases b m <;> cases c m <;> rfl), ← HJ.out, ← HB.out, ← HAB.out] at h; exact h
  have CBA : Hid (∀ W : World, Calls Try.prog 19 #[.agg B, .agg A] W fun e w' => e = .returned (.agg BA) ∧ Below W.heap.size W w') := fun W => by
    have h := less_any (b) (a) W
    rw [← HB.out, ← HA.out, ← HBA.out] at h; exact h
  have CBO2 : Hid (∀ W : World, Calls Try.prog 19 #[.agg B, .agg BA] W fun e w' => e = .returned (.agg BO) ∧ Below W.heap.size W w') := fun W => by
    have h := less_any (b) (less b a) W
    rw [enc_congr (s := less (b) (less b a)) (t := less a (less a b)) (fun m _ => by simp only [less]; cases a m <;> cases b m <;> cases c m <;> rfl), ← HB.out, ← HBA.out, ← HBO.out] at h; exact h
  have CX : Hid (∀ W : World, Calls Try.prog 19 #[.agg A, .agg BC] W fun e w' => e = .returned (.agg X) ∧ Below W.heap.size W w') := fun W => by
    have h := less_any (a) (join b c) W
    rw [← HA.out, ← HBC.out, ← HX.out] at h; exact h
  have CX2 : Hid (∀ W : World, Calls Try.prog 19 #[.agg AB, .agg C] W fun e w' => e = .returned (.agg X) ∧ Below W.heap.size W w') := fun W => by
    have h := less_any (less a b) (c) W
    rw [enc_congr (s := less (less a b) (c)) (t := less a (join b c)) (fun m _ => by simp only [join, less]; cases a m <;> cases b m <;> cases c m <;> rfl), ← HAB.out, ← HC.out, ← HX.out] at h; exact h
  obtain ⟨ca, Hca⟩ : ∃ k : Nat, Hid (k = cntTo a 256) := ⟨_, rfl⟩
  obtain ⟨cb, Hcb⟩ : ∃ k : Nat, Hid (k = cntTo b 256) := ⟨_, rfl⟩
  obtain ⟨cj, Hcj⟩ : ∃ k : Nat, Hid (k = cntTo (join a b) 256) := ⟨_, rfl⟩
  obtain ⟨cx, Hcx⟩ : ∃ k : Nat, Hid (k = cntTo (less a (less a b)) 256) := ⟨_, rfl⟩
  have ha : ca ≤ 256 := by rw [Hca.out]; exact cntTo_le _ _
  have hb : cb ≤ 256 := by rw [Hcb.out]; exact cntTo_le _ _
  have hj : cj ≤ 256 := by rw [Hcj.out]; exact cntTo_le _ _
  have hx : cx ≤ 256 := by rw [Hcx.out]; exact cntTo_le _ _
  have hsum : (((ca : Int) + cb) == ((cj : Int) + cx)) = true := by rw [beq_iff_eq, Hca.out, Hcb.out, Hcj.out, Hcx.out]; have := cnt_incl a b 256; omega
  have NA : Hid (∀ W : World, Calls Try.prog 15 #[.agg A] W fun e w' => e = .returned (.int .i64 ca) ∧ Below W.heap.size W w') := fun W => by
    rw [HA.out, Hca.out]; exact count_any _ W
  have NB : Hid (∀ W : World, Calls Try.prog 15 #[.agg B] W fun e w' => e = .returned (.int .i64 cb) ∧ Below W.heap.size W w') := fun W => by
    rw [HB.out, Hcb.out]; exact count_any _ W
  have NJ : Hid (∀ W : World, Calls Try.prog 15 #[.agg J] W fun e w' => e = .returned (.int .i64 cj) ∧ Below W.heap.size W w') := fun W => by
    rw [HJ.out, Hcj.out]; exact count_any _ W
  have NBO : Hid (∀ W : World, Calls Try.prog 15 #[.agg BO] W fun e w' => e = .returned (.int .i64 cx) ∧ Below W.heap.size W w') := fun W => by
    rw [HBO.out, Hcx.out]; exact count_any _ W
  go_enter Try.func6, Try.ntmps6
  go_wp2_with fail
  refine (counted_true _).mono ?_
  rintro e w1 ⟨rfl, hb1⟩
  have k1 := Lib.hid (heap_below hb1 (heap_alloc_keep (heap_alloc_keep (heap_alloc_new w (.cells A 23)) _) _))
  have k2 := Lib.hid (heap_below hb1 (heap_alloc_keep (heap_alloc_at (w.alloc (.cells A 23)) (.cells B 23) (w.heap.size + 1) (by simp)) _))
  have k3 := Lib.hid (heap_below hb1 (heap_alloc_at ((w.alloc (.cells A 23)).alloc (.cells B 23)) (.cells C 23) (w.heap.size + 2) (by simp)))
  have kB : Below w.heap.size w w1 := ((((Below.refl _ _).alloc (Nat.le_refl _) _).alloc (by simp) _).alloc (by simp; omega) _).trans (hb1.mono (by simp; omega))
  clear hb1
  go_wp2_with fail
  refine wp_region_inv (by kernel_rfl) (by kernel_rfl) (setsI A B C w.heap.size AB BO w1) ?_ ?_ ?_
  · exact ⟨_, _, _, _, _, _, rfl, (Below.refl _ _).drew, by simp, by simp, by simp, by simp, by simp, by simp, by simp⟩
  · intro D a u hI i o ho hD ha
    obtain ⟨s7, s10, s11, s12, s13, s14, rfl, hB, f0, f1, f2, f3, f4, f5, k5⟩ := hI
    match i, ho, hD, ha with
    | 0, ho, hD, ha =>
      simp only [List.getElem?_cons_zero, Option.some.injEq] at ho
      subst ho
      refine step_plain rfl ?_
      refine wp_load_row 23 (.tmp 3) rfl w.heap.size rfl 23 A (0, 0) _ (heap_below hB k1.out) setT rfl (by rw [SA.out]; exact setI) ?_
      exact ⟨s7, _, s11, s12, s13, s14, rfl, hB, fun _ => rfl, fun h => f1 (of_upd h (by decide)), fun h => f2 (of_upd h (by decide)), fun h => f3 (of_upd h (by decide)), fun h => f4 (of_upd h (by decide)), fun h => by
          obtain ⟨g, Z, h1, h2, h3, h4, h5⟩ := f5 (of_upd h (by decide))
          exact ⟨g, Z, h1, h2, h3, h4, fun h6 => h5 (of_upd h6 (by decide))⟩, fun h => by rw [upd_ne (by decide)]; exact k5 (of_upd h (by decide))⟩
    | 1, ho, hD, ha =>
      simp only [List.getElem?_cons_zero, List.getElem?_cons_succ, Option.some.injEq] at ho
      subst ho
      refine step_plain rfl ?_
      refine wp_load_row 23 (.tmp 3) rfl w.heap.size rfl 23 A (0, 0) _ (heap_below hB k1.out) setT rfl (by rw [SA.out]; exact setI) ?_
      exact ⟨s7, s10, _, s12, s13, s14, rfl, hB, fun h => f0 (of_upd h (by decide)), fun _ => rfl, fun h => f2 (of_upd h (by decide)), fun h => f3 (of_upd h (by decide)), fun h => f4 (of_upd h (by decide)), fun h => by
          obtain ⟨g, Z, h1, h2, h3, h4, h5⟩ := f5 (of_upd h (by decide))
          exact ⟨g, Z, h1, h2, h3, h4, fun h6 => h5 (of_upd h6 (by decide))⟩, fun h => by rw [upd_ne (by decide)]; exact k5 (of_upd h (by decide))⟩
    | 2, ho, hD, ha =>
      simp only [List.getElem?_cons_zero, List.getElem?_cons_succ, Option.some.injEq] at ho
      subst ho
      refine step_plain rfl ?_
      refine wp_load_row 23 (.tmp 4) rfl (w.heap.size + 1) rfl 23 B (0, 0) _ (heap_below hB k2.out) setT rfl (by rw [SB.out]; exact setI) ?_
      exact ⟨s7, s10, s11, _, s13, s14, rfl, hB, fun h => f0 (of_upd h (by decide)), fun h => f1 (of_upd h (by decide)), fun _ => rfl, fun h => f3 (of_upd h (by decide)), fun h => f4 (of_upd h (by decide)), fun h => by
          obtain ⟨g, Z, h1, h2, h3, h4, h5⟩ := f5 (of_upd h (by decide))
          exact ⟨g, Z, h1, h2, h3, h4, fun h6 => h5 (of_upd h6 (by decide))⟩, fun h => by rw [upd_ne (by decide)]; exact k5 (of_upd h (by decide))⟩
    | 3, ho, hD, ha =>
      simp only [List.getElem?_cons_zero, List.getElem?_cons_succ, Option.some.injEq] at ho
      subst ho
      refine step_plain rfl ?_
      have e1 : D 1 = true := ha ⟨1, .data⟩ (by simp) rfl
      have e2 : D 2 = true := ha ⟨2, .data⟩ (by simp) rfl
      obtain rfl := f1 e1
      obtain rfl := f2 e2
      refine wp_call_op 19 #[.tmp 11, .tmp 12] #[23, 23] rfl (fun _ _ => by kernel_rfl) #[.agg A, .agg B] (by kernel_rfl) (.agg AB) (fun w' => Below u.heap.size u w') (CAB.out u) ?_
      intro w' hb
      exact ⟨s7, s10, _, _, _, s14, rfl, Below.step hB hb, fun h => f0 (of_upd h (by decide)), fun _ => rfl, fun _ => rfl, fun _ => rfl, fun h => f4 (of_upd h (by decide)), fun h => by
          obtain ⟨g, Z, h1, h2, h3, h4, h5⟩ := f5 (of_upd h (by decide))
          exact ⟨g, Z, h1, h2, heap_below hb h3, h4, fun h6 => h5 (of_upd h6 (by decide))⟩, fun h => by rw [upd_ne (by decide)]; exact k5 (of_upd h (by decide))⟩
    | 4, ho, hD, ha =>
      simp only [List.getElem?_cons_zero, List.getElem?_cons_succ, Option.some.injEq] at ho
      subst ho
      refine step_plain rfl ?_
      have e0 : D 0 = true := ha ⟨0, .data⟩ (by simp) rfl
      have e3 : D 3 = true := ha ⟨3, .data⟩ (by simp) rfl
      obtain rfl := f0 e0
      obtain rfl := f3 e3
      refine wp_call_op 19 #[.tmp 10, .tmp 13] #[23, 23] rfl (fun _ _ => by kernel_rfl) #[.agg A, .agg AB] (by kernel_rfl) (.agg BO) (fun w' => Below u.heap.size u w') (CBO.out u) ?_
      intro w' hb
      exact ⟨s7, _, s11, s12, _, _, rfl, Below.step hB hb, fun _ => rfl, fun h => f1 (of_upd h (by decide)), fun h => f2 (of_upd h (by decide)), fun _ => rfl, fun _ => rfl, fun h => by
          obtain ⟨g, Z, h1, h2, h3, h4, h5⟩ := f5 (of_upd h (by decide))
          exact ⟨g, Z, h1, h2, heap_below hb h3, h4, fun h6 => h5 (of_upd h6 (by decide))⟩, fun h => by rw [upd_ne (by decide)]; exact k5 (of_upd h (by decide))⟩
    | 5, ho, hD, ha =>
      simp only [List.getElem?_cons_zero, List.getElem?_cons_succ, Option.some.injEq] at ho
      subst ho
      refine step_plain rfl ?_
      have hst : D 6 = true → D 5 = true := fun h => k5 h
      refine wp_alloc_op 23 rfl (enc emp) setZ ?_
      exact ⟨_, s10, s11, s12, s13, s14, rfl, hB.alloc hB.size _, fun h => f0 (of_upd h (by decide)), fun h => f1 (of_upd h (by decide)), fun h => f2 (of_upd h (by decide)), fun h => f3 (of_upd h (by decide)), fun h => f4 (of_upd h (by decide)), fun _ => ⟨u.heap.size, (enc emp), rfl, hB.size, heap_alloc_new _ _, enc_size _, fun h6 => by have := hst (of_upd h6 (by decide)); rw [hD] at this; cases this⟩, fun _ => upd_self _ _⟩
    | 6, ho, hD, ha =>
      simp only [List.getElem?_cons_zero, List.getElem?_cons_succ, Option.some.injEq] at ho
      subst ho
      refine step_plain rfl ?_
      have e4 : D 4 = true := ha ⟨4, .data⟩ (by simp) rfl
      have e5 : D 5 = true := ha ⟨5, .data⟩ (by simp) rfl
      obtain ⟨g, Z, rfl, h2, h3, h4, h5⟩ := f5 e5
      obtain rfl := f4 e4
      refine wp_store_row 23 (.tmp 7) (.tmp 14) rfl g BO rfl rfl 23 Z h3 (by rw [SBO.out]; exact setI) (by rw [h4, SBO.out]) OBO.out ?_
      exact ⟨_, s10, s11, s12, s13, _, rfl, Below.setRow hB h2 _, fun h => f0 (of_upd h (by decide)), fun h => f1 (of_upd h (by decide)), fun h => f2 (of_upd h (by decide)), fun h => f3 (of_upd h (by decide)), fun _ => rfl, fun _ => ⟨g, _, rfl, h2, setRow_heap _ _ _ _ _ _ h3, SBO.out, fun _ => rfl⟩, fun _ => by rw [upd_ne (by decide)]; exact e5⟩
    | i + 7, ho, hD, ha => simp at ho
  · intro D a' w4 hI hall
    obtain ⟨s7, s10, s11, s12, s13, s14, rfl, hB, f0, f1, f2, f3, f4, f5, k5⟩ := hI
    obtain rfl := f0 (hall 0 (by decide))
    obtain rfl := f1 (hall 1 (by decide))
    obtain rfl := f2 (hall 2 (by decide))
    obtain rfl := f3 (hall 3 (by decide))
    obtain rfl := f4 (hall 4 (by decide))
    obtain ⟨g7, Z7, rfl, _, h7, _, e7⟩ := f5 (hall 5 (by decide))
    obtain rfl := (e7 (hall 6 (by decide))).symm
    have q7 := Lib.hid h7
    have q0 := Lib.hid (heap_below hB k1.out)
    have q1 := Lib.hid (heap_below hB k2.out)
    have q2 := Lib.hid (heap_below hB k3.out)
    have qB := Below.step kB hB
    clear f0 f1 f2 f3 f4 f5 k5 e7 h7 hB k1 k2 k3 kB hall
    unfold setsFrame
    go_wp2_with fail
    refine wp_region_quiet_below (by kernel_rfl) (by kernel_rfl) ?_
    simp only [List.append_eq, List.cons_append, List.nil_append]
    refine wpQuiet_load_row rfl 23 (.tmp 3) rfl w.heap.size rfl 23 A (0, 0) _ (fun _ hw => grown_heap hw q0.out) setT rfl (by rw [SA.out]; exact setI) ?_
    simp only [Act.put, List.setIfInBounds_toArray, List.set_cons_zero, List.set_cons_succ]
    refine wpQuiet_load_row rfl 23 (.tmp 4) rfl (w.heap.size + 1) rfl 23 B (0, 0) _ (fun _ hw => grown_heap hw q1.out) setT rfl (by rw [SB.out]; exact setI) ?_
    simp only [Act.put, List.setIfInBounds_toArray, List.set_cons_zero, List.set_cons_succ]
    refine wpQuiet_call 20 #[.tmp 15, .tmp 16] #[23, 23] rfl rfl (fun _ _ => by kernel_rfl) #[.agg A, .agg B] (by kernel_rfl) (.agg J) (fun _ _ => grown_step) (fun w' _ => CJ.out w') ?_
    simp only [Act.put, List.setIfInBounds_toArray, List.set_cons_zero, List.set_cons_succ]
    refine wpQuiet_load_row rfl 23 (.tmp 4) rfl (w.heap.size + 1) rfl 23 B (0, 0) _ (fun _ hw => grown_heap hw q1.out) setT rfl (by rw [SB.out]; exact setI) ?_
    simp only [Act.put, List.setIfInBounds_toArray, List.set_cons_zero, List.set_cons_succ]
    refine wpQuiet_load_row rfl 23 (.tmp 3) rfl w.heap.size rfl 23 A (0, 0) _ (fun _ hw => grown_heap hw q0.out) setT rfl (by rw [SA.out]; exact setI) ?_
    simp only [Act.put, List.setIfInBounds_toArray, List.set_cons_zero, List.set_cons_succ]
    refine wpQuiet_call 20 #[.tmp 18, .tmp 19] #[23, 23] rfl rfl (fun _ _ => by kernel_rfl) #[.agg B, .agg A] (by kernel_rfl) (.agg J) (fun _ _ => grown_step) (fun w' _ => CJ2.out w') ?_
    simp only [Act.put, List.setIfInBounds_toArray, List.set_cons_zero, List.set_cons_succ]
    refine wpQuiet_run rfl (.bool true) (run_eql_agg 23 23 (.tmp 17) (.tmp 20) rfl J J rfl rfl true EJ setG) ?_
    simp only [Act.put, List.setIfInBounds_toArray, List.set_cons_zero, List.set_cons_succ]
    refine wpQuiet_move' (.tmp 21) rfl rfl (.bool true) rfl ?_
    simp only [Act.put, List.setIfInBounds_toArray, List.set_cons_zero, List.set_cons_succ]
    refine wpQuiet_load_row rfl 23 (.tmp 3) rfl w.heap.size rfl 23 A (0, 0) _ (fun _ hw => grown_heap hw q0.out) setT rfl (by rw [SA.out]; exact setI) ?_
    simp only [Act.put, List.setIfInBounds_toArray, List.set_cons_zero, List.set_cons_succ]
    refine wpQuiet_load_row rfl 23 (.tmp 4) rfl (w.heap.size + 1) rfl 23 B (0, 0) _ (fun _ hw => grown_heap hw q1.out) setT rfl (by rw [SB.out]; exact setI) ?_
    simp only [Act.put, List.setIfInBounds_toArray, List.set_cons_zero, List.set_cons_succ]
    refine wpQuiet_load_row rfl 23 (.tmp 5) rfl (w.heap.size + 2) rfl 23 C (0, 0) _ (fun _ hw => grown_heap hw q2.out) setT rfl (by rw [SC.out]; exact setI) ?_
    simp only [Act.put, List.setIfInBounds_toArray, List.set_cons_zero, List.set_cons_succ]
    refine wpQuiet_call 20 #[.tmp 24, .tmp 25] #[23, 23] rfl rfl (fun _ _ => by kernel_rfl) #[.agg B, .agg C] (by kernel_rfl) (.agg BC) (fun _ _ => grown_step) (fun w' _ => CBC.out w') ?_
    simp only [Act.put, List.setIfInBounds_toArray, List.set_cons_zero, List.set_cons_succ]
    refine wpQuiet_call 20 #[.tmp 23, .tmp 26] #[23, 23] rfl rfl (fun _ _ => by kernel_rfl) #[.agg A, .agg BC] (by kernel_rfl) (.agg ABC) (fun _ _ => grown_step) (fun w' _ => CABC.out w') ?_
    simp only [Act.put, List.setIfInBounds_toArray, List.set_cons_zero, List.set_cons_succ]
    refine wpQuiet_load_row rfl 23 (.tmp 3) rfl w.heap.size rfl 23 A (0, 0) _ (fun _ hw => grown_heap hw q0.out) setT rfl (by rw [SA.out]; exact setI) ?_
    simp only [Act.put, List.setIfInBounds_toArray, List.set_cons_zero, List.set_cons_succ]
    refine wpQuiet_load_row rfl 23 (.tmp 4) rfl (w.heap.size + 1) rfl 23 B (0, 0) _ (fun _ hw => grown_heap hw q1.out) setT rfl (by rw [SB.out]; exact setI) ?_
    simp only [Act.put, List.setIfInBounds_toArray, List.set_cons_zero, List.set_cons_succ]
    refine wpQuiet_call 20 #[.tmp 28, .tmp 29] #[23, 23] rfl rfl (fun _ _ => by kernel_rfl) #[.agg A, .agg B] (by kernel_rfl) (.agg J) (fun _ _ => grown_step) (fun w' _ => CJ.out w') ?_
    simp only [Act.put, List.setIfInBounds_toArray, List.set_cons_zero, List.set_cons_succ]
    refine wpQuiet_load_row rfl 23 (.tmp 5) rfl (w.heap.size + 2) rfl 23 C (0, 0) _ (fun _ hw => grown_heap hw q2.out) setT rfl (by rw [SC.out]; exact setI) ?_
    simp only [Act.put, List.setIfInBounds_toArray, List.set_cons_zero, List.set_cons_succ]
    refine wpQuiet_call 20 #[.tmp 30, .tmp 31] #[23, 23] rfl rfl (fun _ _ => by kernel_rfl) #[.agg J, .agg C] (by kernel_rfl) (.agg ABC) (fun _ _ => grown_step) (fun w' _ => CABC2.out w') ?_
    simp only [Act.put, List.setIfInBounds_toArray, List.set_cons_zero, List.set_cons_succ]
    refine wpQuiet_run rfl (.bool true) (run_eql_agg 23 23 (.tmp 27) (.tmp 32) rfl ABC ABC rfl rfl true EABC setG) ?_
    simp only [Act.put, List.setIfInBounds_toArray, List.set_cons_zero, List.set_cons_succ]
    refine wpQuiet_pick _ _ _ rfl rfl true (.bool true) rfl rfl ?_
    simp only [Act.put, List.setIfInBounds_toArray, List.set_cons_zero, List.set_cons_succ]
    refine wpQuiet_move' (.tmp 34) rfl rfl (.bool true) rfl ?_
    simp only [Act.put, List.setIfInBounds_toArray, List.set_cons_zero, List.set_cons_succ]
    refine wpQuiet_load_row rfl 23 (.tmp 3) rfl w.heap.size rfl 23 A (0, 0) _ (fun _ hw => grown_heap hw q0.out) setT rfl (by rw [SA.out]; exact setI) ?_
    simp only [Act.put, List.setIfInBounds_toArray, List.set_cons_zero, List.set_cons_succ]
    refine wpQuiet_load_row rfl 23 (.tmp 3) rfl w.heap.size rfl 23 A (0, 0) _ (fun _ hw => grown_heap hw q0.out) setT rfl (by rw [SA.out]; exact setI) ?_
    simp only [Act.put, List.setIfInBounds_toArray, List.set_cons_zero, List.set_cons_succ]
    refine wpQuiet_call 20 #[.tmp 36, .tmp 37] #[23, 23] rfl rfl (fun _ _ => by kernel_rfl) #[.agg A, .agg A] (by kernel_rfl) (.agg A) (fun _ _ => grown_step) (fun w' _ => CAA.out w') ?_
    simp only [Act.put, List.setIfInBounds_toArray, List.set_cons_zero, List.set_cons_succ]
    refine wpQuiet_load_row rfl 23 (.tmp 3) rfl w.heap.size rfl 23 A (0, 0) _ (fun _ hw => grown_heap hw q0.out) setT rfl (by rw [SA.out]; exact setI) ?_
    simp only [Act.put, List.setIfInBounds_toArray, List.set_cons_zero, List.set_cons_succ]
    refine wpQuiet_run rfl (.bool true) (run_eql_agg 23 23 (.tmp 38) (.tmp 39) rfl A A rfl rfl true EA setG) ?_
    simp only [Act.put, List.setIfInBounds_toArray, List.set_cons_zero, List.set_cons_succ]
    refine wpQuiet_pick _ _ _ rfl rfl true (.bool true) rfl rfl ?_
    simp only [Act.put, List.setIfInBounds_toArray, List.set_cons_zero, List.set_cons_succ]
    refine wpQuiet_move' (.tmp 41) rfl rfl (.bool true) rfl ?_
    simp only [Act.put, List.setIfInBounds_toArray, List.set_cons_zero, List.set_cons_succ]
    refine wpQuiet_load_row rfl 23 (.tmp 3) rfl w.heap.size rfl 23 A (0, 0) _ (fun _ hw => grown_heap hw q0.out) setT rfl (by rw [SA.out]; exact setI) ?_
    simp only [Act.put, List.setIfInBounds_toArray, List.set_cons_zero, List.set_cons_succ]
    refine wpQuiet_load_row rfl 23 (.tmp 4) rfl (w.heap.size + 1) rfl 23 B (0, 0) _ (fun _ hw => grown_heap hw q1.out) setT rfl (by rw [SB.out]; exact setI) ?_
    simp only [Act.put, List.setIfInBounds_toArray, List.set_cons_zero, List.set_cons_succ]
    refine wpQuiet_call 20 #[.tmp 43, .tmp 44] #[23, 23] rfl rfl (fun _ _ => by kernel_rfl) #[.agg A, .agg B] (by kernel_rfl) (.agg J) (fun _ _ => grown_step) (fun w' _ => CJ.out w') ?_
    simp only [Act.put, List.setIfInBounds_toArray, List.set_cons_zero, List.set_cons_succ]
    refine wpQuiet_load_row rfl 23 (.tmp 4) rfl (w.heap.size + 1) rfl 23 B (0, 0) _ (fun _ hw => grown_heap hw q1.out) setT rfl (by rw [SB.out]; exact setI) ?_
    simp only [Act.put, List.setIfInBounds_toArray, List.set_cons_zero, List.set_cons_succ]
    refine wpQuiet_call 19 #[.tmp 45, .tmp 46] #[23, 23] rfl rfl (fun _ _ => by kernel_rfl) #[.agg J, .agg B] (by kernel_rfl) (.agg AB) (fun _ _ => grown_step) (fun w' _ => CJB.out w') ?_
    simp only [Act.put, List.setIfInBounds_toArray, List.set_cons_zero, List.set_cons_succ]
    refine wpQuiet_load_row rfl 23 (.tmp 3) rfl w.heap.size rfl 23 A (0, 0) _ (fun _ hw => grown_heap hw q0.out) setT rfl (by rw [SA.out]; exact setI) ?_
    simp only [Act.put, List.setIfInBounds_toArray, List.set_cons_zero, List.set_cons_succ]
    refine wpQuiet_load_row rfl 23 (.tmp 4) rfl (w.heap.size + 1) rfl 23 B (0, 0) _ (fun _ hw => grown_heap hw q1.out) setT rfl (by rw [SB.out]; exact setI) ?_
    simp only [Act.put, List.setIfInBounds_toArray, List.set_cons_zero, List.set_cons_succ]
    refine wpQuiet_call 19 #[.tmp 48, .tmp 49] #[23, 23] rfl rfl (fun _ _ => by kernel_rfl) #[.agg A, .agg B] (by kernel_rfl) (.agg AB) (fun _ _ => grown_step) (fun w' _ => CAB.out w') ?_
    simp only [Act.put, List.setIfInBounds_toArray, List.set_cons_zero, List.set_cons_succ]
    refine wpQuiet_run rfl (.bool true) (run_eql_agg 23 23 (.tmp 47) (.tmp 50) rfl AB AB rfl rfl true EAB setG) ?_
    simp only [Act.put, List.setIfInBounds_toArray, List.set_cons_zero, List.set_cons_succ]
    refine wpQuiet_pick _ _ _ rfl rfl true (.bool true) rfl rfl ?_
    simp only [Act.put, List.setIfInBounds_toArray, List.set_cons_zero, List.set_cons_succ]
    refine wpQuiet_move' (.tmp 52) rfl rfl (.bool true) rfl ?_
    simp only [Act.put, List.setIfInBounds_toArray, List.set_cons_zero, List.set_cons_succ]
    refine wpQuiet_load_row rfl 23 (.tmp 3) rfl w.heap.size rfl 23 A (0, 0) _ (fun _ hw => grown_heap hw q0.out) setT rfl (by rw [SA.out]; exact setI) ?_
    simp only [Act.put, List.setIfInBounds_toArray, List.set_cons_zero, List.set_cons_succ]
    refine wpQuiet_call 15 #[.tmp 54] #[23] rfl rfl (fun _ _ => by kernel_rfl) #[.agg A] (by kernel_rfl) (.int .i64 ca) (fun _ _ => grown_step) (fun w' _ => NA.out w') ?_
    simp only [Act.put, List.setIfInBounds_toArray, List.set_cons_zero, List.set_cons_succ]
    refine wpQuiet_load_row rfl 23 (.tmp 4) rfl (w.heap.size + 1) rfl 23 B (0, 0) _ (fun _ hw => grown_heap hw q1.out) setT rfl (by rw [SB.out]; exact setI) ?_
    simp only [Act.put, List.setIfInBounds_toArray, List.set_cons_zero, List.set_cons_succ]
    refine wpQuiet_call 15 #[.tmp 56] #[23] rfl rfl (fun _ _ => by kernel_rfl) #[.agg B] (by kernel_rfl) (.int .i64 cb) (fun _ _ => grown_step) (fun w' _ => NB.out w') ?_
    simp only [Act.put, List.setIfInBounds_toArray, List.set_cons_zero, List.set_cons_succ]
    go_big_quiet_want
    go_big_quiet_op
    go_big_quiet_on
    refine wpQuiet_load_row rfl 23 (.tmp 3) rfl w.heap.size rfl 23 A (0, 0) _ (fun _ hw => grown_heap hw q0.out) setT rfl (by rw [SA.out]; exact setI) ?_
    simp only [Act.put, List.setIfInBounds_toArray, List.set_cons_zero, List.set_cons_succ]
    refine wpQuiet_load_row rfl 23 (.tmp 4) rfl (w.heap.size + 1) rfl 23 B (0, 0) _ (fun _ hw => grown_heap hw q1.out) setT rfl (by rw [SB.out]; exact setI) ?_
    simp only [Act.put, List.setIfInBounds_toArray, List.set_cons_zero, List.set_cons_succ]
    refine wpQuiet_call 20 #[.tmp 59, .tmp 60] #[23, 23] rfl rfl (fun _ _ => by kernel_rfl) #[.agg A, .agg B] (by kernel_rfl) (.agg J) (fun _ _ => grown_step) (fun w' _ => CJ.out w') ?_
    simp only [Act.put, List.setIfInBounds_toArray, List.set_cons_zero, List.set_cons_succ]
    refine wpQuiet_call 15 #[.tmp 61] #[23] rfl rfl (fun _ _ => by kernel_rfl) #[.agg J] (by kernel_rfl) (.int .i64 cj) (fun _ _ => grown_step) (fun w' _ => NJ.out w') ?_
    simp only [Act.put, List.setIfInBounds_toArray, List.set_cons_zero, List.set_cons_succ]
    refine wpQuiet_load_row rfl 23 (.tmp 7) rfl g7 rfl 23 BO (0, 0) _ (fun _ hw => grown_heap hw q7.out) setT rfl (by rw [SBO.out]; exact setI) ?_
    simp only [Act.put, List.setIfInBounds_toArray, List.set_cons_zero, List.set_cons_succ]
    refine wpQuiet_call 15 #[.tmp 63] #[23] rfl rfl (fun _ _ => by kernel_rfl) #[.agg BO] (by kernel_rfl) (.int .i64 cx) (fun _ _ => grown_step) (fun w' _ => NBO.out w') ?_
    simp only [Act.put, List.setIfInBounds_toArray, List.set_cons_zero, List.set_cons_succ]
    go_big_quiet_want
    go_big_quiet_op
    go_big_quiet_on
    go_big_quiet_want
    go_big_quiet_op
    go_big_quiet_on
    refine wpQuiet_pick _ _ _ rfl rfl true (.bool true) rfl rfl ?_
    simp only [Act.put, List.setIfInBounds_toArray, List.set_cons_zero, List.set_cons_succ]
    refine wpQuiet_move' (.tmp 67) rfl rfl (.bool true) rfl ?_
    simp only [Act.put, List.setIfInBounds_toArray, List.set_cons_zero, List.set_cons_succ]
    refine wpQuiet_load_row rfl 23 (.tmp 7) rfl g7 rfl 23 BO (0, 0) _ (fun _ hw => grown_heap hw q7.out) setT rfl (by rw [SBO.out]; exact setI) ?_
    simp only [Act.put, List.setIfInBounds_toArray, List.set_cons_zero, List.set_cons_succ]
    refine wpQuiet_load_row rfl 23 (.tmp 4) rfl (w.heap.size + 1) rfl 23 B (0, 0) _ (fun _ hw => grown_heap hw q1.out) setT rfl (by rw [SB.out]; exact setI) ?_
    simp only [Act.put, List.setIfInBounds_toArray, List.set_cons_zero, List.set_cons_succ]
    refine wpQuiet_load_row rfl 23 (.tmp 4) rfl (w.heap.size + 1) rfl 23 B (0, 0) _ (fun _ hw => grown_heap hw q1.out) setT rfl (by rw [SB.out]; exact setI) ?_
    simp only [Act.put, List.setIfInBounds_toArray, List.set_cons_zero, List.set_cons_succ]
    refine wpQuiet_load_row rfl 23 (.tmp 3) rfl w.heap.size rfl 23 A (0, 0) _ (fun _ hw => grown_heap hw q0.out) setT rfl (by rw [SA.out]; exact setI) ?_
    simp only [Act.put, List.setIfInBounds_toArray, List.set_cons_zero, List.set_cons_succ]
    refine wpQuiet_call 19 #[.tmp 71, .tmp 72] #[23, 23] rfl rfl (fun _ _ => by kernel_rfl) #[.agg B, .agg A] (by kernel_rfl) (.agg BA) (fun _ _ => grown_step) (fun w' _ => CBA.out w') ?_
    simp only [Act.put, List.setIfInBounds_toArray, List.set_cons_zero, List.set_cons_succ]
    refine wpQuiet_call 19 #[.tmp 70, .tmp 73] #[23, 23] rfl rfl (fun _ _ => by kernel_rfl) #[.agg B, .agg BA] (by kernel_rfl) (.agg BO) (fun _ _ => grown_step) (fun w' _ => CBO2.out w') ?_
    simp only [Act.put, List.setIfInBounds_toArray, List.set_cons_zero, List.set_cons_succ]
    refine wpQuiet_run rfl (.bool true) (run_eql_agg 23 23 (.tmp 69) (.tmp 74) rfl BO BO rfl rfl true EBO setG) ?_
    simp only [Act.put, List.setIfInBounds_toArray, List.set_cons_zero, List.set_cons_succ]
    refine wpQuiet_pick _ _ _ rfl rfl true (.bool true) rfl rfl ?_
    simp only [Act.put, List.setIfInBounds_toArray, List.set_cons_zero, List.set_cons_succ]
    refine wpQuiet_move' (.tmp 76) rfl rfl (.bool true) rfl ?_
    simp only [Act.put, List.setIfInBounds_toArray, List.set_cons_zero, List.set_cons_succ]
    refine wpQuiet_load_row rfl 23 (.tmp 3) rfl w.heap.size rfl 23 A (0, 0) _ (fun _ hw => grown_heap hw q0.out) setT rfl (by rw [SA.out]; exact setI) ?_
    simp only [Act.put, List.setIfInBounds_toArray, List.set_cons_zero, List.set_cons_succ]
    refine wpQuiet_load_row rfl 23 (.tmp 4) rfl (w.heap.size + 1) rfl 23 B (0, 0) _ (fun _ hw => grown_heap hw q1.out) setT rfl (by rw [SB.out]; exact setI) ?_
    simp only [Act.put, List.setIfInBounds_toArray, List.set_cons_zero, List.set_cons_succ]
    refine wpQuiet_load_row rfl 23 (.tmp 5) rfl (w.heap.size + 2) rfl 23 C (0, 0) _ (fun _ hw => grown_heap hw q2.out) setT rfl (by rw [SC.out]; exact setI) ?_
    simp only [Act.put, List.setIfInBounds_toArray, List.set_cons_zero, List.set_cons_succ]
    refine wpQuiet_call 20 #[.tmp 79, .tmp 80] #[23, 23] rfl rfl (fun _ _ => by kernel_rfl) #[.agg B, .agg C] (by kernel_rfl) (.agg BC) (fun _ _ => grown_step) (fun w' _ => CBC.out w') ?_
    simp only [Act.put, List.setIfInBounds_toArray, List.set_cons_zero, List.set_cons_succ]
    refine wpQuiet_call 19 #[.tmp 78, .tmp 81] #[23, 23] rfl rfl (fun _ _ => by kernel_rfl) #[.agg A, .agg BC] (by kernel_rfl) (.agg X) (fun _ _ => grown_step) (fun w' _ => CX.out w') ?_
    simp only [Act.put, List.setIfInBounds_toArray, List.set_cons_zero, List.set_cons_succ]
    refine wpQuiet_load_row rfl 23 (.tmp 3) rfl w.heap.size rfl 23 A (0, 0) _ (fun _ hw => grown_heap hw q0.out) setT rfl (by rw [SA.out]; exact setI) ?_
    simp only [Act.put, List.setIfInBounds_toArray, List.set_cons_zero, List.set_cons_succ]
    refine wpQuiet_load_row rfl 23 (.tmp 4) rfl (w.heap.size + 1) rfl 23 B (0, 0) _ (fun _ hw => grown_heap hw q1.out) setT rfl (by rw [SB.out]; exact setI) ?_
    simp only [Act.put, List.setIfInBounds_toArray, List.set_cons_zero, List.set_cons_succ]
    refine wpQuiet_call 19 #[.tmp 83, .tmp 84] #[23, 23] rfl rfl (fun _ _ => by kernel_rfl) #[.agg A, .agg B] (by kernel_rfl) (.agg AB) (fun _ _ => grown_step) (fun w' _ => CAB.out w') ?_
    simp only [Act.put, List.setIfInBounds_toArray, List.set_cons_zero, List.set_cons_succ]
    refine wpQuiet_load_row rfl 23 (.tmp 5) rfl (w.heap.size + 2) rfl 23 C (0, 0) _ (fun _ hw => grown_heap hw q2.out) setT rfl (by rw [SC.out]; exact setI) ?_
    simp only [Act.put, List.setIfInBounds_toArray, List.set_cons_zero, List.set_cons_succ]
    refine wpQuiet_call 19 #[.tmp 85, .tmp 86] #[23, 23] rfl rfl (fun _ _ => by kernel_rfl) #[.agg AB, .agg C] (by kernel_rfl) (.agg X) (fun _ _ => grown_step) (fun w' _ => CX2.out w') ?_
    simp only [Act.put, List.setIfInBounds_toArray, List.set_cons_zero, List.set_cons_succ]
    refine wpQuiet_run rfl (.bool true) (run_eql_agg 23 23 (.tmp 82) (.tmp 87) rfl X X rfl rfl true EX setG) ?_
    simp only [Act.put, List.setIfInBounds_toArray, List.set_cons_zero, List.set_cons_succ]
    refine wpQuiet_pick _ _ _ rfl rfl true (.bool true) rfl rfl ?_
    simp only [Act.put, List.setIfInBounds_toArray, List.set_cons_zero, List.set_cons_succ]
    refine wpQuiet_assign' (.tmp 89) rfl rfl (.bool true) rfl ?_
    simp only [Act.put, List.setIfInBounds_toArray, List.set_cons_zero, List.set_cons_succ]
    refine wpQuiet_nil ?_
    intro w5 hw5
    go_wp2
    go_ret
    exact ⟨rfl, Below.step qB (grown_below hw5)⟩

end Go.Proofs.Ytnmfbhiooccgfaa
