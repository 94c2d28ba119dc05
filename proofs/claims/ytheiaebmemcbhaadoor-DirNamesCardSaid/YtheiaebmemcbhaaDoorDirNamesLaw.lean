/- DirNames, walked. -/
import Derived.Test.YtheiaebmemcbhaaDoorDirFact
namespace Go.Proofs.YtheiaebmemcbhaaDoor
open Go.RowKit

theorem nameB_iff (s : ByteArray) : nameB s = true ↔ s.data.toList ≠ [] ∧ s.data.toList.length ≤ 14 ∧ s.data.toList ≠ [46] ∧ s.data.toList ≠ [46, 46] ∧ 0 ∉ s.data.toList ∧ 47 ∉ s.data.toList := by
  have hsz : s.size = s.data.toList.length := by simp
  unfold nameB
  rw [Lib.toList_data, hsz]
  simp only [Bool.and_eq_true, Bool.not_eq_true', beq_eq_false_iff_ne, decide_eq_true_eq, List.contains_eq_mem, decide_eq_false_iff_not, ne_eq]
  constructor
  · rintro ⟨⟨⟨⟨⟨h1, h2⟩, h3⟩, h4⟩, h5⟩, h6⟩; exact ⟨h1, h2, h3, h4, h5, h6⟩
  · rintro ⟨h1, h2, h3, h4, h5, h6⟩; exact ⟨⟨⟨⟨⟨h1, h2⟩, h3⟩, h4⟩, h5⟩, h6⟩
theorem names_not {s t : ByteArray} {b : UInt8} (ht : t.data.toList = s.data.toList ++ [b]) (h1 : nameB s = false) (h2 : nameB t = true) : s.toList = [] ∨ s.toList = [46] ∨ s.toList = [46, 46] := by
  rw [nameB_iff, ht] at h2
  obtain ⟨_, a2, _, _, a5, a6⟩ := h2
  rw [Lib.toList_data]
  rw [List.length_append] at a2
  simp only [List.mem_append, not_or] at a5 a6
  apply Classical.byContradiction
  intro hc
  simp only [not_or] at hc
  have : nameB s = true := (nameB_iff s).2 ⟨hc.1, by simp at a2 ⊢; omega, hc.2.1, hc.2.2, a5.1, a6.1⟩
  rw [this] at h1; cases h1
theorem names_with {s t : ByteArray} {b : UInt8} (ht : t.data.toList = s.data.toList ++ [b]) (h1 : nameB s = true) : nameB t = (decide (b ≠ 0) && decide (b ≠ 47) && decide (t.size ≤ 14)) := by
  have hsz : t.size = t.data.toList.length := by simp
  obtain ⟨a1, a2, a3, a4, a5, a6⟩ := (nameB_iff s).1 h1
  rw [Bool.eq_iff_iff, nameB_iff, hsz, ht]
  simp only [Bool.and_eq_true, decide_eq_true_eq, List.mem_append, List.mem_singleton, not_or]
  constructor
  · rintro ⟨_, h2, _, _, h5, h6⟩
    exact ⟨⟨fun e => h5.2 e.symm, fun e => h6.2 e.symm⟩, h2⟩
  · rintro ⟨⟨h5, h6⟩, h2⟩
    refine ⟨by simp, h2, fun e => ?_, fun e => ?_, ⟨a5, fun e => h5 e.symm⟩, ⟨a6, fun e => h6 e.symm⟩⟩
    · have h3 := congrArg List.length e
      rw [List.length_append] at h3
      exact a1 (List.length_eq_zero_iff.1 (by simpa using h3))
    · have : s.data.toList = [46] := by
        have h3 : s.data.toList ++ [b] = [46] ++ [46] := e
        have h4 := List.append_inj_left' h3 rfl
        exact h4
      exact a3 this

set_option maxRecDepth 100000 in
set_option maxHeartbeats 2000000 in
theorem names_law (s : ByteArray) (c : Int) (w : World) (hc0 : 0 ≤ c) (hc1 : c ≤ 255) :
    Calls Tryd.prog 4 #[.string s, .int .u8 c] w fun e w' => e = .returned (.bool true) ∧ Below w.heap.size w w' := by
  go_enter Tryd.func4, Tryd.ntmps4
  go_wp2_with fail
  refine (laid_true _).mono ?_
  rintro e w1 ⟨rfl, hb1⟩
  by_cases h50 : 50 < s.size
  · have h50i : (50 : Int) < (s.size : Int) := by omega
    go_wp2
    go_ret
    exact ⟨rfl, hb1⟩
  have h50i : ¬ (50 : Int) < (s.size : Int) := by omega
  have HB1 : Hid (Below w.heap.size w (w1.alloc (.cells #[.int .u8 c] 5))) := hb1.alloc hb1.size _
  have hat : BytesAt (w1.alloc (.cells #[.int .u8 c] 5)) (.slice (some ⟨w1.heap.size, 0, none⟩) 1 1) [c] := bytes_of_block (heap_alloc_new w1 _) rfl
  have hcv := conv_bytes hat (by simp)
  obtain ⟨u, Hu⟩ : ∃ u, Hid (bytesS [c] = u) := ⟨_, rfl⟩
  rw [Hu.out] at hcv
  have hus : u.size = 1 := by rw [← Hu.out, bytesS_size]; rfl
  obtain ⟨t, Ht⟩ : ∃ t, Hid (s ++ u = t) := ⟨_, rfl⟩
  have htl : t.data.toList = s.data.toList ++ [UInt8.ofNat c.toNat] := by
    rw [← Ht.out, ← Hu.out]
    have h1 : (s ++ bytesS [c]).data = s.data ++ (bytesS [c]).data := by simp
    rw [h1, Array.toList_append, bytesSL]
    rfl
  have hts : t.size = s.size + 1 := by
    have h1 : t.size = t.data.toList.length := by simp
    have h2 : s.size = s.data.toList.length := by simp
    rw [h1, htl, List.length_append, ← h2]; rfl
  have hsum : ¬ 9223372036854775807 < s.size + u.size := by rw [hus]; omega
  have hsum2 : ¬ (9223372036854775807 : Int) < (s.size : Int) + (u.size : Int) := by rw [hus]; omega
  have hadd : ∀ W : World, (Op.stringOp .add s u).run Tryd.prog W = .ok (.string t) W := fun W => by
    rw [← Ht.out]
    exact run_string_add_sum _ s u (by omega)
  obtain ⟨ns, Hns⟩ : ∃ b, Hid (nameB s = b) := ⟨_, rfl⟩
  obtain ⟨nt, Hnt⟩ : ∃ b, Hid (nameB t = b) := ⟨_, rfl⟩
  have HNS : Hid (∀ W : World, Calls Tryd.prog 15 #[.string s] W fun e w' => e = .returned (.bool ns) ∧ W = w') := fun W => by
    rw [← Hns.out]; exact name_any s W
  have HNT : Hid (∀ W : World, Calls Tryd.prog 15 #[.string t] W fun e w' => e = .returned (.bool nt) ∧ W = w') := fun W => by
    rw [← Hnt.out]; exact name_any t W
  have HTL := Lib.hid htl
  have HTS := Lib.hid hts
  clear hat htl hts hus hsum hsum2 hb1
  go_wp2_with fail
  refine (HNS.out _).mono ?_
  rintro e w2 ⟨rfl, rfl⟩
  cases ns with
  | false =>
    go_wp2_with fail
    refine (HNT.out _).mono ?_
    rintro e w2 ⟨rfl, rfl⟩
    cases nt with
    | false =>
      go_wp2
      go_ret
      exact ⟨rfl, HB1.out⟩
    | true =>
      rcases names_not HTL.out Hns.out Hnt.out with h1 | h1 | h1
      · go_wp2
        go_ret
        exact ⟨rfl, HB1.out⟩
      · have h2 : ¬ s.toList = [] := by rw [h1]; decide
        go_wp2
        go_ret
        exact ⟨rfl, HB1.out⟩
      · have h2 : ¬ s.toList = [] := by rw [h1]; decide
        have h3 : ¬ s.toList = [46] := by rw [h1]; decide
        go_wp2
        go_ret
        exact ⟨rfl, HB1.out⟩
  | true =>
    have hnw := names_with HTL.out Hns.out
    rw [Hnt.out] at hnw
    have HNW := Lib.hid hnw
    clear hnw
    go_wp2_with fail
    refine (HNT.out _).mono ?_
    rintro e w2 ⟨rfl, rfl⟩
    by_cases hc0' : c = 0
    · have hnt : nt = false := by
        rw [HNW.out, hc0']; rfl
      subst hnt
      subst hc0'
      go_wp2
      go_ret
      exact ⟨rfl, HB1.out⟩
    have hb0 : UInt8.ofNat c.toNat ≠ 0 := fun e => hc0' (by
      have h1 := congrArg UInt8.toNat e
      simp at h1
      omega)
    by_cases hc47 : c = 47
    · have hnt : nt = false := by
        rw [HNW.out, hc47]; simp
      subst hnt
      subst hc47
      go_wp2
      go_ret
      exact ⟨rfl, HB1.out⟩
    have hb47 : UInt8.ofNat c.toNat ≠ 47 := fun e => hc47 (by
      have h1 := congrArg UInt8.toNat e
      simp at h1
      omega)
    by_cases h14 : t.size ≤ 14
    · have hnt : nt = true := by rw [HNW.out]; simp [hb0, hb47, h14]
      subst hnt
      have h14i : (t.size : Int) ≤ 14 := by omega
      have b0 : (c != 0) = true := by simpa using hc0'
      have b47 : (c != 47) = true := by simpa using hc47
      clear hb0 hb47
      go_wp2
      go_ret
      refine ⟨?_, HB1.out⟩
      first
        | (show Ending.returned (Value.bool (c != 0 && c != 47)) = _; rw [b0, b47]; rfl)
        | rfl
    · have hnt : nt = false := by rw [HNW.out]; simp [hb0, hb47, h14]
      subst hnt
      have h14i : ¬ (t.size : Int) ≤ 14 := by omega
      have b0 : (c != 0) = true := by simpa using hc0'
      have b47 : (c != 47) = true := by simpa using hc47
      have d14 : decide ((t.size : Int) ≤ 14) = false := by simpa using h14i
      clear hb0 hb47
      go_wp2
      go_ret
      refine ⟨?_, HB1.out⟩
      first
        | (show Ending.returned (Value.bool (!(c != 0) || !(c != 47) || !(decide ((t.size : Int) ≤ 14)))) = _; rw [b0, b47, d14]; rfl)
        | rfl
end Go.Proofs.YtheiaebmemcbhaaDoor
