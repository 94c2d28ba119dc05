/- Directories: what looks for an entry. Written by gen_dirw2.py. -/
import Derived.Test.YtheiaebmemcbhaaDoorDirW
namespace Go.Proofs.YtheiaebmemcbhaaDoor
open Go.RowKit

def IdxP (T : En → Bool) (l : List En) (r : Int) : Prop := (r = -1 ∧ ∀ x ∈ l, T x = false) ∨ ∃ (k : Nat) (hk : k < l.length), r = k ∧ T l[k] = true ∧ ∀ x ∈ l.take k, T x = false
def IdxE (T : En → Bool) (l : List En) (w : World) (e : Ending) (w' : World) : Prop := ∃ r : Int, e = .returned (.int .i64 r) ∧ IdxP T l r ∧ Below w.heap.size w w'
theorem str_eql (a b : ByteArray) : (a.toList == b.toList) = decide (a = b) := by
  rw [Bool.eq_iff_iff, beq_iff_eq, decide_eq_true_eq]
  exact ⟨ba_ext, fun e => by rw [e]⟩

set_option maxRecDepth 100000 in
set_option maxHeartbeats 1000000 in
theorem idx1_any (fid : FuncId) (hfid : ∀ args w, (callFunc fid args).run Tryd.prog w = .ok (.enter fid args) w) (c : Value) (T : En → Bool) (v : Value) (l : List En) (w : World) (h : EntsAt w v l) (hl : l.length ≤ 1000000)
    (hf : ∀ x ∈ l, ∀ W : World, Below w.heap.size w W → Calls Tryd.prog fid #[.agg #[.string x.1, .int .i64 x.2], c] W fun e w' => e = .returned (.bool (T x)) ∧ Below W.heap.size W w') :
    Calls Tryd.prog 13 #[v, .func (.func fid) #[] #[c]] w (IdxE T l w) := by
  obtain ⟨N, HN⟩ : ∃ N, Hid (N = l.length) := ⟨_, rfl⟩
  obtain ⟨p, cp, rfl, hp⟩ := ents_open h N HN.out
  have HP := Lib.hid hp
  have HF := Lib.hid hf
  rw [← HN.out] at hl
  clear h hf hp
  go_enter Tryd.func13, Tryd.ntmps13
  go_wp2
  go_loopw [8] (fun i wr => ∃ k : Nat, k ≤ N ∧ i = .int .i64 k ∧ Hid (∀ x ∈ l.take k, T x = false) ∧ Below w.heap.size w wr) (fun i _ => N - (intOf i).toNat)
  case atStart => exact ⟨0, Nat.zero_le _, rfl, by show ∀ x ∈ l.take 0, _; simp, Below.refl _ _⟩
  case round =>
    obtain ⟨k, hk, rfl, HK, HB⟩ := hrel
    by_cases hlt : k < N
    · obtain ⟨g, o, rfl, hg, hc⟩ := HP.out (by omega)
      have hkl : k < l.length := by rw [← HN.out]; exact hlt
      have hck := hc k hkl
      have hcall := HF.out l[k] (List.getElem_mem hkl) _ HB
      obtain ⟨x, HX⟩ : ∃ x, Hid (l[k] = x) := ⟨l[k], rfl⟩
      obtain ⟨x1, HX1⟩ : ∃ y, Hid (l[k].1 = y) := ⟨l[k].1, rfl⟩
      obtain ⟨x2, HX2⟩ : ∃ y, Hid (l[k].2 = y) := ⟨l[k].2, rfl⟩
      rw [HX1.out, HX2.out] at hck hcall
      have c1 := (HB.cell (p := ⟨g, o + k * 2, none⟩) hg).trans hck.1
      have c2 := (HB.cell (p := ⟨g, o + (k * 2 + 1), none⟩) hg).trans hck.2
      have c3 := c2
      rw [← Nat.add_assoc] at c3
      obtain ⟨b, Hb⟩ : ∃ b, Hid (T l[k] = b) := ⟨T l[k], rfl⟩
      rw [Hb.out] at hcall
      have HT : Hid (b = false → ∀ y ∈ l.take (k + 1), T y = false) := fun hb y hy => by
        rw [← List.take_append_getElem hkl, List.mem_append, List.mem_singleton] at hy
        rcases hy with hy | rfl
        · exact HK.out y hy
        · rw [Hb.out]; exact hb
      have HC := Lib.hid hcall
      clear hc hck hcall
      have hlt2 : (k : Int) < (N : Int) := by omega
      go_wp2_with fail
      refine HC.out.mono ?_
      rintro e w1 ⟨rfl, hb1⟩
      have hB1 := Below.step HB hb1
      clear hb1
      cases b with
      | true =>
        go_wp2
        go_ret
        exact ⟨k, rfl, Or.inr ⟨k, hkl, rfl, Hb.out, HK.out⟩, hB1⟩
      | false =>
        go_wp2
        go_roundw
        case rel => exact ⟨k + 1, by omega, by go_num, fun y hy => HT.out trivial y hy, hB1⟩
        case measure => simp [intOf]; omega
    · have HE : Hid (∀ x ∈ l, T x = false) := by
        have := HK.out
        rw [List.take_of_length_le (by rw [← HN.out]; omega)] at this
        exact this
      go_wp2
      go_ret
      exact ⟨-1, rfl, Or.inl ⟨rfl, HE.out⟩, HB⟩

set_option maxRecDepth 100000 in
set_option maxHeartbeats 1000000 in
theorem has1_any (fid : FuncId) (hfid : ∀ args w, (callFunc fid args).run Tryd.prog w = .ok (.enter fid args) w) (c : Value) (T : En → Bool) (v : Value) (l : List En) (w : World) (h : EntsAt w v l) (hl : l.length ≤ 1000000)
    (hf : ∀ x ∈ l, ∀ W : World, Below w.heap.size w W → Calls Tryd.prog fid #[.agg #[.string x.1, .int .i64 x.2], c] W fun e w' => e = .returned (.bool (T x)) ∧ Below W.heap.size W w') :
    Calls Tryd.prog 25 #[v, .func (.func fid) #[] #[c]] w fun e w' => e = .returned (.bool (l.any T)) ∧ Below w.heap.size w w' := by
  have HI := Lib.hid (idx1_any fid hfid c T v l w h hl hf)
  obtain ⟨r0, Hr0⟩ : ∃ r, Hid (l.any T = r) := ⟨_, rfl⟩
  rw [Hr0.out]
  clear h hf hfid
  go_enter Tryd.func25, Tryd.ntmps25
  go_wp2_with fail
  refine HI.out.mono ?_
  rintro e w1 ⟨r, rfl, hr, hb⟩
  have HR := Lib.hid hr
  clear hr
  go_wp2
  go_ret
  refine ⟨?_, hb⟩
  have : r0 = decide (0 ≤ r) := by
    rw [← Hr0.out]
    rcases HR.out with ⟨rfl, h⟩ | ⟨k, hk, rfl, h, _⟩
    · rw [List.any_eq_false.2 (fun x hx => by rw [h x hx]; simp)]; rfl
    · rw [List.any_eq_true.2 ⟨_, List.getElem_mem hk, h⟩]
      have : (0 : Int) ≤ (k : Int) := by omega
      simp [this]
  rw [this]; rfl

set_option maxRecDepth 100000 in
set_option maxHeartbeats 1000000 in
theorem idx0_any (fid : FuncId) (hfid : ∀ args w, (callFunc fid args).run Tryd.prog w = .ok (.enter fid args) w) (T : En → Bool) (v : Value) (l : List En) (w : World) (h : EntsAt w v l) (hl : l.length ≤ 1000000)
    (hf : ∀ x ∈ l, ∀ W : World, Below w.heap.size w W → Calls Tryd.prog fid #[.agg #[.string x.1, .int .i64 x.2]] W fun e w' => e = .returned (.bool (T x)) ∧ Below W.heap.size W w') :
    Calls Tryd.prog 13 #[v, .func (.func fid) #[] #[]] w (IdxE T l w) := by
  obtain ⟨N, HN⟩ : ∃ N, Hid (N = l.length) := ⟨_, rfl⟩
  obtain ⟨p, cp, rfl, hp⟩ := ents_open h N HN.out
  have HP := Lib.hid hp
  have HF := Lib.hid hf
  rw [← HN.out] at hl
  clear h hf hp
  go_enter Tryd.func13, Tryd.ntmps13
  go_wp2
  go_loopw [8] (fun i wr => ∃ k : Nat, k ≤ N ∧ i = .int .i64 k ∧ Hid (∀ x ∈ l.take k, T x = false) ∧ Below w.heap.size w wr) (fun i _ => N - (intOf i).toNat)
  case atStart => exact ⟨0, Nat.zero_le _, rfl, by show ∀ x ∈ l.take 0, _; simp, Below.refl _ _⟩
  case round =>
    obtain ⟨k, hk, rfl, HK, HB⟩ := hrel
    by_cases hlt : k < N
    · obtain ⟨g, o, rfl, hg, hc⟩ := HP.out (by omega)
      have hkl : k < l.length := by rw [← HN.out]; exact hlt
      have hck := hc k hkl
      have hcall := HF.out l[k] (List.getElem_mem hkl) _ HB
      obtain ⟨x, HX⟩ : ∃ x, Hid (l[k] = x) := ⟨l[k], rfl⟩
      obtain ⟨x1, HX1⟩ : ∃ y, Hid (l[k].1 = y) := ⟨l[k].1, rfl⟩
      obtain ⟨x2, HX2⟩ : ∃ y, Hid (l[k].2 = y) := ⟨l[k].2, rfl⟩
      rw [HX1.out, HX2.out] at hck hcall
      have c1 := (HB.cell (p := ⟨g, o + k * 2, none⟩) hg).trans hck.1
      have c2 := (HB.cell (p := ⟨g, o + (k * 2 + 1), none⟩) hg).trans hck.2
      have c3 := c2
      rw [← Nat.add_assoc] at c3
      obtain ⟨b, Hb⟩ : ∃ b, Hid (T l[k] = b) := ⟨T l[k], rfl⟩
      rw [Hb.out] at hcall
      have HT : Hid (b = false → ∀ y ∈ l.take (k + 1), T y = false) := fun hb y hy => by
        rw [← List.take_append_getElem hkl, List.mem_append, List.mem_singleton] at hy
        rcases hy with hy | rfl
        · exact HK.out y hy
        · rw [Hb.out]; exact hb
      have HC := Lib.hid hcall
      clear hc hck hcall
      have hlt2 : (k : Int) < (N : Int) := by omega
      go_wp2_with fail
      refine HC.out.mono ?_
      rintro e w1 ⟨rfl, hb1⟩
      have hB1 := Below.step HB hb1
      clear hb1
      cases b with
      | true =>
        go_wp2
        go_ret
        exact ⟨k, rfl, Or.inr ⟨k, hkl, rfl, Hb.out, HK.out⟩, hB1⟩
      | false =>
        go_wp2
        go_roundw
        case rel => exact ⟨k + 1, by omega, by go_num, fun y hy => HT.out trivial y hy, hB1⟩
        case measure => simp [intOf]; omega
    · have HE : Hid (∀ x ∈ l, T x = false) := by
        have := HK.out
        rw [List.take_of_length_le (by rw [← HN.out]; omega)] at this
        exact this
      go_wp2
      go_ret
      exact ⟨-1, rfl, Or.inl ⟨rfl, HE.out⟩, HB⟩

set_option maxRecDepth 100000 in
set_option maxHeartbeats 1000000 in
theorem has0_any (fid : FuncId) (hfid : ∀ args w, (callFunc fid args).run Tryd.prog w = .ok (.enter fid args) w) (T : En → Bool) (v : Value) (l : List En) (w : World) (h : EntsAt w v l) (hl : l.length ≤ 1000000)
    (hf : ∀ x ∈ l, ∀ W : World, Below w.heap.size w W → Calls Tryd.prog fid #[.agg #[.string x.1, .int .i64 x.2]] W fun e w' => e = .returned (.bool (T x)) ∧ Below W.heap.size W w') :
    Calls Tryd.prog 25 #[v, .func (.func fid) #[] #[]] w fun e w' => e = .returned (.bool (l.any T)) ∧ Below w.heap.size w w' := by
  have HI := Lib.hid (idx0_any fid hfid T v l w h hl hf)
  obtain ⟨r0, Hr0⟩ : ∃ r, Hid (l.any T = r) := ⟨_, rfl⟩
  rw [Hr0.out]
  clear h hf hfid
  go_enter Tryd.func25, Tryd.ntmps25
  go_wp2_with fail
  refine HI.out.mono ?_
  rintro e w1 ⟨r, rfl, hr, hb⟩
  have HR := Lib.hid hr
  clear hr
  go_wp2
  go_ret
  refine ⟨?_, hb⟩
  have : r0 = decide (0 ≤ r) := by
    rw [← Hr0.out]
    rcases HR.out with ⟨rfl, h⟩ | ⟨k, hk, rfl, h, _⟩
    · rw [List.any_eq_false.2 (fun x hx => by rw [h x hx]; simp)]; rfl
    · rw [List.any_eq_true.2 ⟨_, List.getElem_mem hk, h⟩]
      have : (0 : Int) ≤ (k : Int) := by omega
      simp [this]
  rw [this]; rfl

theorem rightC_any (n : ByteArray) (y : En) (g : Nat) (W : World) (h : W.cell? ⟨g, 0, none⟩ = some (.string n)) :
    Calls Tryd.prog 34 #[.agg #[.string y.1, .int .i64 y.2], .pointer (some ⟨g, 0, none⟩)] W fun e w' => e = .returned (.bool (decide (n = y.1))) ∧ Below W.heap.size W w' := by
  obtain ⟨b, Hb⟩ : ∃ b, Hid (decide (n = y.1) = b) := ⟨_, rfl⟩
  rw [Hb.out]
  have hb : Hid ((n.toList == y.1.toList) = b) := by show _ = _; rw [str_eql]; exact Hb.out
  have hb2 : Hid ((y.1.toList == n.toList) = b) := by show _ = _; rw [Bool.beq_comm]; exact hb.out
  obtain ⟨y1, y2⟩ := y
  have hlt : g < W.heap.size := block_lt_of_cell h
  have hne : ¬ g = W.heap.size := by omega
  have HB : Hid (Below W.heap.size W (W.alloc (.cells #[.string y1, .int .i64 y2] 33))) := (Below.refl _ _).alloc (Nat.le_refl _) _
  clear Hb
  go_enter Tryd.func34, Tryd.ntmps34
  go_wp2
  go_ret
  first
    | exact ⟨by rw [← hb.out]; rfl, HB.out⟩
    | exact ⟨by rw [← hb2.out]; rfl, HB.out⟩
theorem rightC_any_fid (args : Array Value) (w : World) : (callFunc 34 args).run Tryd.prog w = .ok (.enter 34 args) w := by simp [go_sem]

theorem putC_any (n : ByteArray) (y : En) (g : Nat) (W : World) (h : W.cell? ⟨g, 0, none⟩ = some (.string n)) :
    Calls Tryd.prog 36 #[.agg #[.string y.1, .int .i64 y.2], .pointer (some ⟨g, 0, none⟩)] W fun e w' => e = .returned (.bool (decide (n = y.1))) ∧ Below W.heap.size W w' := by
  obtain ⟨b, Hb⟩ : ∃ b, Hid (decide (n = y.1) = b) := ⟨_, rfl⟩
  rw [Hb.out]
  have hb : Hid ((n.toList == y.1.toList) = b) := by show _ = _; rw [str_eql]; exact Hb.out
  have hb2 : Hid ((y.1.toList == n.toList) = b) := by show _ = _; rw [Bool.beq_comm]; exact hb.out
  obtain ⟨y1, y2⟩ := y
  have hlt : g < W.heap.size := block_lt_of_cell h
  have hne : ¬ g = W.heap.size := by omega
  have HB : Hid (Below W.heap.size W (W.alloc (.cells #[.string y1, .int .i64 y2] 33))) := (Below.refl _ _).alloc (Nat.le_refl _) _
  clear Hb
  go_enter Tryd.func36, Tryd.ntmps36
  go_wp2
  go_ret
  first
    | exact ⟨by rw [← hb.out]; rfl, HB.out⟩
    | exact ⟨by rw [← hb2.out]; rfl, HB.out⟩
theorem putC_any_fid (args : Array Value) (w : World) : (callFunc 36 args).run Tryd.prog w = .ok (.enter 36 args) w := by simp [go_sem]

theorem outC_any (n : ByteArray) (y : En) (g : Nat) (W : World) (h : W.cell? ⟨g, 0, none⟩ = some (.string n)) :
    Calls Tryd.prog 37 #[.agg #[.string y.1, .int .i64 y.2], .pointer (some ⟨g, 0, none⟩)] W fun e w' => e = .returned (.bool (decide (n = y.1))) ∧ Below W.heap.size W w' := by
  obtain ⟨b, Hb⟩ : ∃ b, Hid (decide (n = y.1) = b) := ⟨_, rfl⟩
  rw [Hb.out]
  have hb : Hid ((n.toList == y.1.toList) = b) := by show _ = _; rw [str_eql]; exact Hb.out
  have hb2 : Hid ((y.1.toList == n.toList) = b) := by show _ = _; rw [Bool.beq_comm]; exact hb.out
  obtain ⟨y1, y2⟩ := y
  have hlt : g < W.heap.size := block_lt_of_cell h
  have hne : ¬ g = W.heap.size := by omega
  have HB : Hid (Below W.heap.size W (W.alloc (.cells #[.string y1, .int .i64 y2] 33))) := (Below.refl _ _).alloc (Nat.le_refl _) _
  clear Hb
  go_enter Tryd.func37, Tryd.ntmps37
  go_wp2
  go_ret
  first
    | exact ⟨by rw [← hb.out]; rfl, HB.out⟩
    | exact ⟨by rw [← hb2.out]; rfl, HB.out⟩
theorem outC_any_fid (args : Array Value) (w : World) : (callFunc 37 args).run Tryd.prog w = .ok (.enter 37 args) w := by simp [go_sem]

theorem findC_any (n : ByteArray) (y : En) (g : Nat) (W : World) (h : W.cell? ⟨g, 0, none⟩ = some (.string n)) :
    Calls Tryd.prog 14 #[.agg #[.string y.1, .int .i64 y.2], .pointer (some ⟨g, 0, none⟩)] W fun e w' => e = .returned (.bool (decide (n = y.1))) ∧ Below W.heap.size W w' := by
  obtain ⟨b, Hb⟩ : ∃ b, Hid (decide (n = y.1) = b) := ⟨_, rfl⟩
  rw [Hb.out]
  have hb : Hid ((n.toList == y.1.toList) = b) := by show _ = _; rw [str_eql]; exact Hb.out
  have hb2 : Hid ((y.1.toList == n.toList) = b) := by show _ = _; rw [Bool.beq_comm]; exact hb.out
  obtain ⟨y1, y2⟩ := y
  have hlt : g < W.heap.size := block_lt_of_cell h
  have hne : ¬ g = W.heap.size := by omega
  have HB : Hid (Below W.heap.size W (W.alloc (.cells #[.string y1, .int .i64 y2] 33))) := (Below.refl _ _).alloc (Nat.le_refl _) _
  clear Hb
  go_enter Tryd.func14, Tryd.ntmps14
  go_wp2
  go_ret
  first
    | exact ⟨by rw [← hb.out]; rfl, HB.out⟩
    | exact ⟨by rw [← hb2.out]; rfl, HB.out⟩
theorem findC_any_fid (args : Array Value) (w : World) : (callFunc 14 args).run Tryd.prog w = .ok (.enter 14 args) w := by simp [go_sem]

theorem heavyE_any (y : En) (W : World) (hs : y.1.size ≤ maxLen) : Calls Tryd.prog 26 #[.agg #[.string y.1, .int .i64 y.2]] W fun e w' => e = .returned (.bool (decide (50 < y.1.size))) ∧ Below W.heap.size W w' := by
  obtain ⟨y1, y2⟩ := y
  have hi : decide ((50 : Int) < (y1.size : Int)) = decide (50 < y1.size) := by
    rw [Bool.eq_iff_iff]; simp; omega
  obtain ⟨b, Hb⟩ : ∃ b, Hid (decide (50 < y1.size) = b) := ⟨_, rfl⟩
  rw [Hb.out] at hi ⊢
  have HB : Hid (Below W.heap.size W (W.alloc (.cells #[.string y1, .int .i64 y2] 33))) := (Below.refl _ _).alloc (Nat.le_refl _) _
  clear hs
  go_enter Tryd.func26, Tryd.ntmps26
  go_wp2
  go_ret
  exact ⟨by rw [← hi]; rfl, HB.out⟩
theorem heavyE_any_fid (args : Array Value) (w : World) : (callFunc 26 args).run Tryd.prog w = .ok (.enter 26 args) w := by simp [go_sem]
end Go.Proofs.YtheiaebmemcbhaaDoor
