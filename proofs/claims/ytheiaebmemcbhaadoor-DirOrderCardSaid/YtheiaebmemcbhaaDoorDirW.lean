/- Directories, walked: names compared, names that are right, what looks for an entry. -/
import Derived.Test.YtheiaebmemcbhaaDoorDirP2
import Derived.Test.YtheiaebmemcbhaaDoorDirLay
import Derived.Test.YtheiaebmemcbhaaDoorLawEnd
import Derived.LoopTactic
import Derived.WalkKit
import Derived.Lib.IndexLaws
import Derived.Laws.Cover1
namespace Go.Proofs.YtheiaebmemcbhaaDoor
open Go.RowKit Go.Shelf

theorem nan_any (s : ByteArray) (w : World) : Calls Tryd.prog 41 #[.string s] w fun e w' => e = .returned (.bool false) ∧ w = w' := by
  go_enter Tryd.func41, Tryd.ntmps41
  go_wp2
  go_ret
  simp
theorem compare_any (a b : ByteArray) (w : World) : Calls Tryd.prog 29 #[.string a, .string b] w fun e w' => e = .returned (.int .i64 (cmpB a b)) ∧ w = w' := by
  obtain ⟨r, Hr⟩ : ∃ r, Hid (cmpB a b = r) := ⟨_, rfl⟩
  rw [Hr.out]
  cases h1 : lexB a b with
  | true =>
    have HR : Hid (r = -1) := by
      show r = -1
      rw [← Hr.out]; unfold cmpB; rw [if_pos h1]
    have h1' : Op.bytesLess a.toList b.toList = true := h1
    clear h1
    go_enter Tryd.func29, Tryd.ntmps29
    go_wp2_with fail
    refine (nan_any _ _).mono ?_
    rintro e w' ⟨rfl, rfl⟩
    go_wp2_with fail
    refine (nan_any _ _).mono ?_
    rintro e w' ⟨rfl, rfl⟩
    go_wp2
    go_ret
    exact ⟨by rw [HR.out]; rfl, rfl⟩
  | false =>
    have h1' : Op.bytesLess a.toList b.toList = false := h1
    cases h2 : lexB b a with
    | true =>
      have HR : Hid (r = 1) := by
        show r = 1
        rw [← Hr.out]; unfold cmpB; rw [if_neg (by rw [h1]; decide), if_neg]
        intro e; subst e; rw [h2] at h1; cases h1
      have hne : ¬ a.toList = b.toList := fun e => by have := ba_ext e; subst this; rw [h2] at h1; cases h1
      have hbe : (a.toList == b.toList) = false := by rw [beq_eq_false_iff_ne]; exact hne
      clear h1 h2 hne
      go_enter Tryd.func29, Tryd.ntmps29
      go_wp2_with fail
      refine (nan_any _ _).mono ?_
      rintro e w' ⟨rfl, rfl⟩
      go_wp2_with fail
      refine (nan_any _ _).mono ?_
      rintro e w' ⟨rfl, rfl⟩
      go_wp2
      go_ret
      exact ⟨by rw [HR.out]; rfl, rfl⟩
    | false =>
      have HR : Hid (r = 0) := by
        show r = 0
        rw [← Hr.out]; unfold cmpB; rw [if_neg (by rw [h1]; decide), if_pos (lex_total h1 h2)]
      have hab := lex_total h1 h2
      subst hab
      clear h1 h2
      go_enter Tryd.func29, Tryd.ntmps29
      go_wp2_with fail
      refine (nan_any _ _).mono ?_
      rintro e w' ⟨rfl, rfl⟩
      go_wp2_with fail
      refine (nan_any _ _).mono ?_
      rintro e w' ⟨rfl, rfl⟩
      go_wp2
      go_ret
      exact ⟨by rw [HR.out]; rfl, rfl⟩

theorem index_neg (l : List UInt8) (c : UInt8) : decide (Lib.indexByte l c < 0) = !(l.contains c) := by
  have h : ∀ l : List UInt8, -1 ≤ Lib.indexByte l c := by
    intro l
    induction l with
    | nil => show (-1 : Int) ≤ -1; omega
    | cons b l ih => unfold Lib.indexByte; split <;> (try split) <;> omega
  induction l with
  | nil => rfl
  | cons b l ih =>
    have h1 := h l
    unfold Lib.indexByte
    by_cases hb : b = c
    · subst hb; simp
    · have hb2 : ¬ c = b := fun e => hb e.symm
      by_cases hc : Lib.indexByte l c = -1
      · rw [hc] at ih
        simp at ih
        simp [hb, hb2, hc, ih]
      · have h3 : ¬ (Lib.indexByte l c < 0) := by omega
        have h4 : ¬ (Lib.indexByte l c + 1 < 0) := by omega
        simp [h3] at ih
        simp [hb, hb2, hc, h4, ih]
theorem ixb (s : ByteArray) (c : Nat) (_ : c < 256) (w : World) : Calls Tryd.prog 32 #[.string s, .int .u8 (c : Int)] w fun e w' => (∃ r : Int, e = .returned (.int .i64 r) ∧ decide (r < 0) = !(s.data.toList.contains (UInt8.ofNat c))) ∧ w' = w := by
  refine (Any.strings_IndexByte Tryd.lays137 s (c : Int) w).mono ?_
  rintro e w' ⟨rfl, rfl⟩
  refine ⟨⟨_, rfl, ?_⟩, rfl⟩
  rw [index_neg]
  simp

theorem ixz (s : ByteArray) (c : Nat) (hc : c < 256) (z : Bool) (hz : s.data.toList.contains (UInt8.ofNat c) = z) (w : World) : Calls Tryd.prog 32 #[.string s, .int .u8 (c : Int)] w fun e w' => (∃ r : Int, e = .returned (.int .i64 r) ∧ decide (r < 0) = !z) ∧ w' = w := by
  rw [← hz]; exact ixb s c hc w
set_option maxRecDepth 100000 in
set_option maxHeartbeats 1000000 in
theorem name_any (s : ByteArray) (w : World) : Calls Tryd.prog 15 #[.string s] w fun e w' => e = .returned (.bool (nameB s)) ∧ w = w' := by
  obtain ⟨r, Hr⟩ : ∃ r, Hid (nameB s = r) := ⟨_, rfl⟩
  obtain ⟨z, Hz⟩ : ∃ z, Hid (s.data.toList.contains 0 = z) := ⟨_, rfl⟩
  obtain ⟨y, Hy⟩ : ∃ y, Hid (s.data.toList.contains 47 = y) := ⟨_, rfl⟩
  have H0 := Lib.hid (fun w => ixz s 0 (by omega) z Hz.out w)
  have H1 := Lib.hid (fun w => ixz s 47 (by omega) y Hy.out w)
  have HN : Hid (r = (!(s.toList == []) && decide (s.size ≤ 14) && !(s.toList == [46]) && !(s.toList == [46, 46]) && !z && !y)) := by
    show _ = _
    rw [← Hr.out, ← Hz.out, ← Hy.out]; rfl
  rw [Hr.out]
  clear Hr Hz Hy
  go_enter Tryd.func15, Tryd.ntmps15
  cases z <;> cases y <;> go_wp2_with (go_at_call 32; (first | refine (H0.out _).mono ?_ | refine (H1.out _).mono ?_); rintro e w' ⟨⟨q, rfl, hq⟩, rfl⟩; simp at hq)
  all_goals
    have hs : decide (s.size ≤ 14) = true ∨ decide (s.size ≤ 14) = false := by cases decide (s.size ≤ 14) <;> simp
    go_ret
    rw [HN.out]
    refine ⟨?_, rfl⟩
    first
      | simp [*]; done
      | (have h14 : s.size ≤ 14 := by omega
         simp [*]; done)
      | (have h14 : ¬ s.size ≤ 14 := by omega
         simp [*]; done)
end Go.Proofs.YtheiaebmemcbhaaDoor
