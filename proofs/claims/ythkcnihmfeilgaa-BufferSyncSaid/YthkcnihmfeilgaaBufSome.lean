/- Uses of a cache that came in; some. -/
import Derived.Test.YthkcnihmfeilgaaDkHelp
namespace Go.Proofs.Ythkcnihmfeilgaa
open Go.RowKit

def uses (l : List (Int × ByteArray × Bool)) : List Value := l.flatMap fun x => [.int .i64 x.1, .string x.2.1, .bool x.2.2]
def UsesAt (w : World) (v : Value) (l : List (Int × ByteArray × Bool)) : Prop := RowAt w v 3 l.length (uses l)
theorem uses_len (l : List (Int × ByteArray × Bool)) : (uses l).length = l.length * 3 := by
  induction l with
  | nil => rfl
  | cons x l ih => simp only [uses, List.flatMap_cons, List.length_append, List.length_cons, List.length_nil] at *; omega
theorem uses_get (l : List (Int × ByteArray × Bool)) (k : Nat) (hk : k < l.length) : (uses l)[k * 3]? = some (.int .i64 l[k].1) ∧ (uses l)[k * 3 + 1]? = some (.string l[k].2.1) ∧ (uses l)[k * 3 + 2]? = some (.bool l[k].2.2) := by
  induction l generalizing k with
  | nil => simp at hk
  | cons x l ih =>
    cases k with
    | zero => simp [uses]
    | succ k =>
      have := ih k (by simpa using hk)
      simp only [uses, List.flatMap_cons, List.cons_append, List.nil_append] at this ⊢
      rw [show (k + 1) * 3 = k * 3 + 1 + 1 + 1 by omega, show k * 3 + 1 + 1 + 1 + 1 = (k * 3 + 1) + 1 + 1 + 1 by omega, show k * 3 + 1 + 1 + 1 + 2 = (k * 3 + 2) + 1 + 1 + 1 by omega]
      simpa using this
/-- A slice of uses, its cells wherever it has any. -/
theorem uses_open {w : World} {v : Value} {l : List (Int × ByteArray × Bool)} (h : UsesAt w v l) (N : Nat) (hN : N = l.length) : ∃ p cp, v = .slice p N cp ∧ (0 < N → ∃ g o, p = some ⟨g, o, none⟩ ∧ g < w.heap.size ∧ ∀ k (hk : k < l.length), w.cell? ⟨g, o + k * 3, none⟩ = some (.int .i64 l[k].1) ∧ w.cell? ⟨g, o + (k * 3 + 1), none⟩ = some (.string l[k].2.1) ∧ w.cell? ⟨g, o + (k * 3 + 2), none⟩ = some (.bool l[k].2.2)) := by
  subst hN
  obtain ⟨_, ⟨h0, a0, c0, rfl⟩ | ⟨g, o, cap, rfl, hc⟩⟩ := h
  · exact ⟨a0, c0, by rw [h0], fun h => by omega⟩
  · refine ⟨_, cap, rfl, fun h0 => ⟨g, o, rfl, ?_, fun k hk => ⟨hc _ _ (uses_get l k hk).1, hc _ _ (uses_get l k hk).2.1, hc _ _ (uses_get l k hk).2.2⟩⟩⟩
    exact block_lt_of_cell (hc _ _ (uses_get l 0 h0).1)

def bigU (x : Int × ByteArray × Bool) : Bool := decide (100 < x.2.1.size)
def someB (l : List (Int × ByteArray × Bool)) : Bool := decide (l.length ≤ 60) && !(l.any bigU)

theorem bigU_any (a : Int) (s : ByteArray) (b : Bool) (w : World) (hs : s.size ≤ maxLen) :
    Calls Try.prog 50 #[.agg #[.int .i64 a, .string s, .bool b]] w fun e w' => e = .returned (.bool (bigU (a, s, b))) ∧ Below w.heap.size w w' := by
  unfold maxLen at hs
  by_cases hb : 100 < s.size
  · have HF : Hid (bigU (a, s, b) = true) := by show _ = _; simp [bigU, hb]
    have hb2 : (100 : Int) < (s.size : Int) := by omega
    go_enter Try.func50, Try.ntmps50
    go_wp2
    go_ret
    rw [HF.out]
    exact ⟨by simp, (Below.refl _ _).alloc (Nat.le_refl _) _⟩
  · have HF : Hid (bigU (a, s, b) = false) := by show _ = _; simp [bigU, hb]
    have hb2 : ¬ (100 : Int) < (s.size : Int) := by omega
    go_enter Try.func50, Try.ntmps50
    go_wp2
    go_ret
    rw [HF.out]
    exact ⟨by simp, (Below.refl _ _).alloc (Nat.le_refl _) _⟩

def IdxUses (l : List (Int × ByteArray × Bool)) (w : World) (e : Ending) (w' : World) : Prop := ∃ r : Int, e = .returned (.int .i64 r) ∧ (0 ≤ r ↔ l.any bigU = true) ∧ Below w.heap.size w w'

set_option maxRecDepth 100000 in
set_option maxHeartbeats 1000000 in
theorem indexU_any (v : Value) (l : List (Int × ByteArray × Bool)) (w : World) (h : UsesAt w v l) (hl : l.length ≤ 1000000) (hs : ∀ x, x ∈ l → x.2.1.size ≤ maxLen) :
    Calls Try.prog 70 #[v, .func (.func 50) #[] #[]] w (IdxUses l w) := by
  obtain ⟨N, HN⟩ : ∃ N, Hid (N = l.length) := ⟨_, rfl⟩
  obtain ⟨p, cp, hv, hp⟩ := uses_open h N HN.out
  rw [← HN.out] at hl
  subst hv
  have HP := Lib.hid hp
  have HS := Lib.hid hs
  clear hp hs h
  go_enter Try.func70, Try.ntmps70
  go_wp2
  go_loopw [8] (fun i wr => ∃ k : Nat, k ≤ N ∧ i = .int .i64 k ∧ Hid ((l.take k).any bigU = false) ∧ Below w.heap.size w wr) (fun i _ => N - (intOf i).toNat)
  case atStart => exact ⟨0, Nat.zero_le _, rfl, rfl, Below.refl _ _⟩
  case round =>
    obtain ⟨k, hk, rfl, HK, HB⟩ := hrel
    by_cases hlt : k < N
    · obtain ⟨g, o, rfl, hg, hc⟩ := HP.out (by omega)
      have hkl : k < l.length := by rw [← HN.out]; exact hlt
      have hck := hc k hkl
      obtain ⟨a, ha⟩ : ∃ a, Hid (a = l[k].1) := ⟨l[k].1, rfl⟩
      obtain ⟨s, hs⟩ : ∃ s, Hid (s = l[k].2.1) := ⟨l[k].2.1, rfl⟩
      obtain ⟨pb, hpb⟩ : ∃ s, Hid (s = l[k].2.2) := ⟨l[k].2.2, rfl⟩
      rw [← ha.out, ← hs.out, ← hpb.out] at hck
      have c1 := (HB.cell (p := ⟨g, o + k * 3, none⟩) hg).trans hck.1
      have c2 := (HB.cell (p := ⟨g, o + (k * 3 + 1), none⟩) hg).trans hck.2.1
      have c3 := (HB.cell (p := ⟨g, o + (k * 3 + 2), none⟩) hg).trans hck.2.2
      rw [← Nat.add_assoc] at c2 c3
      have HSS : Hid (s.size ≤ maxLen) := by rw [hs.out]; exact HS.out _ (List.getElem_mem hkl)
      have HT : Hid ((l.take (k + 1)).any bigU = bigU (a, s, pb)) := by
        rw [← List.take_append_getElem hkl, List.any_append, HK.out, ha.out, hs.out, hpb.out]; show _ = _; simp
      have HA : Hid (bigU (a, s, pb) = true → l.any bigU = true) := fun hb => by
        rw [List.any_eq_true]
        exact ⟨l[k], List.getElem_mem hkl, by rw [ha.out, hs.out, hpb.out] at hb; exact hb⟩
      have HC := Lib.hid hc
      clear hc hck
      have hlt2 : (k : Int) < (N : Int) := by omega
      go_wp2_with fail
      refine (bigU_any a s pb _ HSS.out).mono ?_
      generalize hbg : bigU (a, s, pb) = bg
      have HBG := Lib.hid hbg
      clear hbg
      rintro e w1 ⟨rfl, hb1⟩
      have hB1 := Below.step HB hb1
      cases bg with
      | true =>
        go_wp2
        go_ret
        exact ⟨k, rfl, ⟨fun _ => HA.out HBG.out, fun _ => by omega⟩, hB1⟩
      | false =>
        go_wp2
        go_roundw
        case rel => exact ⟨k + 1, by omega, by go_num, HT.out.trans HBG.out, hB1⟩
        case measure => simp [intOf]; omega
    · have HF : Hid (l.any bigU = false) := by
        have := HK.out
        rw [List.take_of_length_le (by rw [← HN.out]; omega)] at this
        exact this
      go_wp2
      go_ret
      exact ⟨-1, rfl, ⟨fun h => by omega, fun h => by rw [HF.out] at h; cases h⟩, HB⟩

set_option maxRecDepth 100000 in
set_option maxHeartbeats 1000000 in
theorem containsU_any (v : Value) (l : List (Int × ByteArray × Bool)) (w : World) (h : UsesAt w v l) (hl : l.length ≤ 1000000) (hs : ∀ x, x ∈ l → x.2.1.size ≤ maxLen) :
    Calls Try.prog 49 #[v, .func (.func 50) #[] #[]] w fun e w' => e = .returned (.bool (l.any bigU)) ∧ Below w.heap.size w w' := by
  have H := Lib.hid h
  have HS := Lib.hid hs
  clear h hs
  go_enter Try.func49, Try.ntmps49
  go_wp2_with fail
  refine (indexU_any _ l _ H.out hl HS.out).mono ?_
  rintro e w1 ⟨r, rfl, hr, hb⟩
  have HR := Lib.hid hr
  clear hr
  go_wp2
  go_ret
  refine ⟨?_, hb⟩
  have : l.any bigU = decide (0 ≤ r) := by
    rw [Bool.eq_iff_iff]; simp [HR.out]
  rw [this]; rfl

set_option maxRecDepth 100000 in
set_option maxHeartbeats 1000000 in
theorem some_any (v : Value) (l : List (Int × ByteArray × Bool)) (w : World) (h : UsesAt w v l) (hl : l.length ≤ maxLen) (hs : ∀ x, x ∈ l → x.2.1.size ≤ maxLen) :
    Calls Try.prog 13 #[v] w fun e w' => e = .returned (.bool (someB l)) ∧ Below w.heap.size w w' := by
  unfold maxLen at hl
  obtain ⟨N, HN⟩ : ∃ N, Hid (N = l.length) := ⟨_, rfl⟩
  obtain ⟨p, cp, hv, hp⟩ := uses_open h N HN.out
  rw [← HN.out] at hl
  subst hv
  have H := Lib.hid h
  have HS := Lib.hid hs
  clear hp hs h
  by_cases h60 : N ≤ 60
  · have HF : Hid (someB l = !(l.any bigU)) := by show _ = _; unfold someB; rw [← HN.out]; simp [h60]
    have h602 : (N : Int) ≤ 60 := by omega
    go_enter Try.func13, Try.ntmps13
    go_wp2_with fail
    refine (containsU_any _ l _ H.out (by rw [← HN.out]; omega) HS.out).mono ?_
    generalize hbg : l.any bigU = bg at HF ⊢
    rintro e w1 ⟨rfl, hb1⟩
    clear hbg
    go_wp2
    go_ret
    rw [HF.out]
    exact ⟨rfl, hb1⟩
  · have HF : Hid (someB l = false) := by show _ = _; unfold someB; rw [← HN.out]; simp [h60]
    have h602 : ¬ (N : Int) ≤ 60 := by omega
    go_enter Try.func13, Try.ntmps13
    go_wp2
    go_ret
    rw [HF.out]
    exact ⟨rfl, Below.refl _ _⟩

end Go.Proofs.Ythkcnihmfeilgaa
