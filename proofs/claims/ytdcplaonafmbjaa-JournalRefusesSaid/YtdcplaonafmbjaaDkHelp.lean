/- The statements' helpers: puts that came in, light. -/
import Derived.Test.YtdcplaonafmbjaaDkOps5
import Derived.Test.YtdcplaonafmbjaaPick
namespace Go.Proofs.Ytdcplaonafmbjaa
open Go.RowKit

def puts (l : List (Int × ByteArray)) : List Value := l.flatMap fun x => [.int .i64 x.1, .string x.2]
def PutsAt (w : World) (v : Value) (l : List (Int × ByteArray)) : Prop := RowAt w v 2 l.length (puts l)
theorem puts_len (l : List (Int × ByteArray)) : (puts l).length = l.length * 2 := by
  induction l with
  | nil => rfl
  | cons x l ih => simp only [puts, List.flatMap_cons, List.length_append, List.length_cons, List.length_nil] at *; omega
theorem puts_get (l : List (Int × ByteArray)) (k : Nat) (hk : k < l.length) : (puts l)[k * 2]? = some (.int .i64 l[k].1) ∧ (puts l)[k * 2 + 1]? = some (.string l[k].2) := by
  induction l generalizing k with
  | nil => simp at hk
  | cons x l ih =>
    cases k with
    | zero => simp [puts]
    | succ k =>
      have := ih k (by simpa using hk)
      simp only [puts, List.flatMap_cons, List.cons_append, List.nil_append] at this ⊢
      rw [show (k + 1) * 2 = k * 2 + 1 + 1 by omega, show k * 2 + 1 + 1 + 1 = (k * 2 + 1) + 1 + 1 by omega]
      simpa using this
/-- A slice of puts, its cells wherever it has any. -/
theorem puts_open {w : World} {v : Value} {l : List (Int × ByteArray)} (h : PutsAt w v l) (N : Nat) (hN : N = l.length) : ∃ p cp, v = .slice p N cp ∧ (0 < N → ∃ g o, p = some ⟨g, o, none⟩ ∧ g < w.heap.size ∧ ∀ k (hk : k < l.length), w.cell? ⟨g, o + k * 2, none⟩ = some (.int .i64 l[k].1) ∧ w.cell? ⟨g, o + (k * 2 + 1), none⟩ = some (.string l[k].2)) := by
  subst hN
  obtain ⟨_, ⟨h0, a0, c0, rfl⟩ | ⟨g, o, cap, rfl, hc⟩⟩ := h
  · exact ⟨a0, c0, by rw [h0], fun h => by omega⟩
  · refine ⟨_, cap, rfl, fun h0 => ⟨g, o, rfl, ?_, fun k hk => ⟨hc _ _ (puts_get l k hk).1, hc _ _ (puts_get l k hk).2⟩⟩⟩
    exact block_lt_of_cell (hc _ _ (puts_get l 0 h0).1)

def bigP (x : Int × ByteArray) : Bool := decide (100 < x.2.size)
def lightB (l : List (Int × ByteArray)) : Bool := decide (l.length ≤ 60) && !(l.any bigP)

theorem big_any (a : Int) (s : ByteArray) (w : World) (hs : s.size ≤ maxLen) :
    Calls Try.prog 37 #[.agg #[.int .i64 a, .string s]] w fun e w' => e = .returned (.bool (bigP (a, s))) ∧ Below w.heap.size w w' := by
  unfold maxLen at hs
  by_cases hb : 100 < s.size
  · have HF : Hid (bigP (a, s) = true) := by show _ = _; simp [bigP, hb]
    have hb2 : (100 : Int) < (s.size : Int) := by omega
    go_enter Try.func37, Try.ntmps37
    go_wp2
    go_ret
    rw [HF.out]
    exact ⟨by simp, (Below.refl _ _).alloc (Nat.le_refl _) _⟩
  · have HF : Hid (bigP (a, s) = false) := by show _ = _; simp [bigP, hb]
    have hb2 : ¬ (100 : Int) < (s.size : Int) := by omega
    go_enter Try.func37, Try.ntmps37
    go_wp2
    go_ret
    rw [HF.out]
    exact ⟨by simp, (Below.refl _ _).alloc (Nat.le_refl _) _⟩

def IdxRes (l : List (Int × ByteArray)) (w : World) (e : Ending) (w' : World) : Prop := ∃ r : Int, e = .returned (.int .i64 r) ∧ (0 ≤ r ↔ l.any bigP = true) ∧ Below w.heap.size w w'

set_option maxRecDepth 100000 in
set_option maxHeartbeats 1000000 in
theorem index_any (v : Value) (l : List (Int × ByteArray)) (w : World) (h : PutsAt w v l) (hl : l.length ≤ 1000000) (hs : ∀ x, x ∈ l → x.2.size ≤ maxLen) :
    Calls Try.prog 58 #[v, .func (.func 37) #[] #[]] w (IdxRes l w) := by
  obtain ⟨N, HN⟩ : ∃ N, Hid (N = l.length) := ⟨_, rfl⟩
  obtain ⟨p, cp, hv, hp⟩ := puts_open h N HN.out
  rw [← HN.out] at hl
  subst hv
  have HP := Lib.hid hp
  have HS := Lib.hid hs
  clear hp hs h
  go_enter Try.func58, Try.ntmps58
  go_wp2
  go_loopw [8] (fun i wr => ∃ k : Nat, k ≤ N ∧ i = .int .i64 k ∧ Hid ((l.take k).any bigP = false) ∧ Below w.heap.size w wr) (fun i _ => N - (intOf i).toNat)
  case atStart => exact ⟨0, Nat.zero_le _, rfl, rfl, Below.refl _ _⟩
  case round =>
    obtain ⟨k, hk, rfl, HK, HB⟩ := hrel
    by_cases hlt : k < N
    · obtain ⟨g, o, rfl, hg, hc⟩ := HP.out (by omega)
      have hkl : k < l.length := by rw [← HN.out]; exact hlt
      have hck := hc k hkl
      obtain ⟨a, ha⟩ : ∃ a, Hid (a = l[k].1) := ⟨l[k].1, rfl⟩
      obtain ⟨s, hs⟩ : ∃ s, Hid (s = l[k].2) := ⟨l[k].2, rfl⟩
      rw [← ha.out, ← hs.out] at hck
      have c1 := (HB.cell (p := ⟨g, o + k * 2, none⟩) hg).trans hck.1
      have c2 := (HB.cell (p := ⟨g, o + (k * 2 + 1), none⟩) hg).trans hck.2
      rw [← Nat.add_assoc] at c2
      have HSS : Hid (s.size ≤ maxLen) := by rw [hs.out]; exact HS.out _ (List.getElem_mem hkl)
      have HT : Hid ((l.take (k + 1)).any bigP = bigP (a, s)) := by
        rw [← List.take_append_getElem hkl, List.any_append, HK.out, ha.out, hs.out]; show _ = _; simp
      have HA : Hid (bigP (a, s) = true → l.any bigP = true) := fun hb => by
        rw [List.any_eq_true]
        exact ⟨l[k], List.getElem_mem hkl, by rw [ha.out, hs.out] at hb; exact hb⟩
      have HC := Lib.hid hc
      clear hc hck
      have hlt2 : (k : Int) < (N : Int) := by omega
      go_wp2_with fail
      refine (big_any a s _ HSS.out).mono ?_
      generalize hbg : bigP (a, s) = bg
      have HBG := Lib.hid hbg
      clear hbg
      rintro e w1 ⟨rfl, hb1⟩
      have hB1 := Below.step HB hb1
      cases bg with
      | true =>
        go_wp2
        go_ret
        exact ⟨k, rfl, ⟨fun _ => HA.out HBG.out, fun _ => by omega⟩, hB1⟩
      | false =>
        go_wp2
        go_roundw
        case rel => exact ⟨k + 1, by omega, by go_num, HT.out.trans HBG.out, hB1⟩
        case measure => simp [intOf]; omega
    · have HF : Hid (l.any bigP = false) := by
        have := HK.out
        rw [List.take_of_length_le (by rw [← HN.out]; omega)] at this
        exact this
      go_wp2
      go_ret
      exact ⟨-1, rfl, ⟨fun h => by omega, fun h => by rw [HF.out] at h; cases h⟩, HB⟩

set_option maxRecDepth 100000 in
set_option maxHeartbeats 1000000 in
theorem contains_any (v : Value) (l : List (Int × ByteArray)) (w : World) (h : PutsAt w v l) (hl : l.length ≤ 1000000) (hs : ∀ x, x ∈ l → x.2.size ≤ maxLen) :
    Calls Try.prog 36 #[v, .func (.func 37) #[] #[]] w fun e w' => e = .returned (.bool (l.any bigP)) ∧ Below w.heap.size w w' := by
  have H := Lib.hid h
  have HS := Lib.hid hs
  clear h hs
  go_enter Try.func36, Try.ntmps36
  go_wp2_with fail
  refine (index_any _ l _ H.out hl HS.out).mono ?_
  rintro e w1 ⟨r, rfl, hr, hb⟩
  have HR := Lib.hid hr
  clear hr
  go_wp2
  go_ret
  refine ⟨?_, hb⟩
  have : l.any bigP = decide (0 ≤ r) := by
    rw [Bool.eq_iff_iff]; simp [HR.out]
  rw [this]; rfl

set_option maxRecDepth 100000 in
set_option maxHeartbeats 1000000 in
theorem light_any (v : Value) (l : List (Int × ByteArray)) (w : World) (h : PutsAt w v l) (hl : l.length ≤ maxLen) (hs : ∀ x, x ∈ l → x.2.size ≤ maxLen) :
    Calls Try.prog 10 #[v] w fun e w' => e = .returned (.bool (lightB l)) ∧ Below w.heap.size w w' := by
  unfold maxLen at hl
  obtain ⟨N, HN⟩ : ∃ N, Hid (N = l.length) := ⟨_, rfl⟩
  obtain ⟨p, cp, hv, hp⟩ := puts_open h N HN.out
  rw [← HN.out] at hl
  subst hv
  have H := Lib.hid h
  have HS := Lib.hid hs
  clear hp hs h
  by_cases h60 : N ≤ 60
  · have HF : Hid (lightB l = !(l.any bigP)) := by show _ = _; unfold lightB; rw [← HN.out]; simp [h60]
    have h602 : (N : Int) ≤ 60 := by omega
    go_enter Try.func10, Try.ntmps10
    go_wp2_with fail
    refine (contains_any _ l _ H.out (by rw [← HN.out]; omega) HS.out).mono ?_
    generalize hbg : l.any bigP = bg at HF ⊢
    rintro e w1 ⟨rfl, hb1⟩
    clear hbg
    go_wp2
    go_ret
    rw [HF.out]
    exact ⟨rfl, hb1⟩
  · have HF : Hid (lightB l = false) := by show _ = _; unfold lightB; rw [← HN.out]; simp [h60]
    have h602 : ¬ (N : Int) ≤ 60 := by omega
    go_enter Try.func10, Try.ntmps10
    go_wp2
    go_ret
    rw [HF.out]
    exact ⟨rfl, Below.refl _ _⟩

end Go.Proofs.Ytdcplaonafmbjaa
