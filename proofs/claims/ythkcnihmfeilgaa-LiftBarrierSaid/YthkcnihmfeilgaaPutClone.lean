/- slices.Clone of puts; the closure that asks for a barrier. -/
import Derived.Test.YthkcnihmfeilgaaPutDel
import Derived.Shelf.Abstract
namespace Go.Proofs.Ythkcnihmfeilgaa
open Go.RowKit

theorem putInfo2 : (Try.prog.info? 55).map (fun i => (i.zero, i.size, i.bytes)) = some (some (.agg #[.int .i64 0, .string { data := #[] }]), 2, 24) := by kernel_rfl
theorem puts_one (l : List (Int × ByteArray)) : ∀ u ∈ puts l, u.oneCell' = true := by
  intro u hu
  unfold puts at hu
  obtain ⟨x, _, hu⟩ := List.mem_flatMap.1 hu
  simp at hu
  rcases hu with rfl | rfl <;> rfl
set_option maxRecDepth 100000 in
set_option maxHeartbeats 1000000 in
theorem putsClone_any (v : Value) (l : List (Int × ByteArray)) (w : World) (h : RowAt w v 2 l.length (puts l)) (h1 : l.length ≤ 1000000) :
    Calls Try.prog 27 #[v] w (PutsRes w.heap.size l w) := by
  obtain ⟨i0, hi, hz0, hz1, hz2⟩ := info_parts putInfo2
  have HI := Lib.hid hi
  have HZ0 := Lib.hid hz0
  have HZ1 := Lib.hid hz1
  have HZ2 := Lib.hid hz2
  clear hi hz0 hz1 hz2
  obtain ⟨n, HN⟩ : ∃ n, Hid (n = l.length) := ⟨_, rfl⟩
  obtain ⟨a, c, hv, HC⟩ : ∃ a c, v = .slice a n c ∧ Hid (∀ ad, a = some ad → ∀ j u, (puts l)[j]? = some u → w.cell? (ad.add j) = some u) ∧ (a = none → n = 0) := by
    obtain ⟨hl, ⟨hn, a, c, rfl⟩ | ⟨g, o, c, rfl, hc⟩⟩ := h
    · refine ⟨a, c, by rw [HN.out, hn], fun ad _ j u hj => ?_, fun _ => by rw [HN.out]; exact hn⟩
      have := (List.getElem?_eq_some_iff.1 hj).1
      omega
    · refine ⟨_, c, by rw [HN.out], fun ad hd j u hj => ?_, fun h => by cases h⟩
      cases hd
      have hadd : (⟨g, o, none⟩ : Addr).add j = ⟨g, o + j, none⟩ := by unfold Addr.add; split <;> simp_all
      rw [hadd]; exact hc j u hj
  obtain ⟨HC, HE⟩ := HC
  subst hv
  have hpl : (puts l).length = n * 2 := by rw [puts_len, ← HN.out]
  have HPL := Lib.hid hpl
  rw [← HN.out] at h1
  clear hpl h
  unfold PutsRes
  rw [← HN.out]
  have q22 : ∀ (w : World) (a : Option Addr) (n c n' c' : Nat), (binOp .eql 42 (.slice a n c) (.slice none n' c')).run Try.prog w = .ok (.bool a.isNone) w := fun w a n c n' c' => Lib.run_eql_slice_nil w _ _ a n c n' c' putT2
  cases a with
  | none =>
    have HE0 := Lib.hid (HE rfl)
    clear HE
    go_enter Try.func27, Try.ntmps27
    go_wp2
    go_ret
    exact ⟨_, rfl, ⟨HPL.out, Or.inl ⟨rfl, HE0.out⟩⟩, Below.refl _ _, Nat.le_refl _⟩
  | some ad =>
    clear HE
    go_enter Try.func27, Try.ntmps27
    go_wp2_with (at_builtin; refine wpList_append_own _ rfl _ _ 42 rfl w.heap.size 55 i0 (.agg #[.int .i64 0, .string { data := #[] }]) 2 24 putT2 HI.out HZ0.out HZ1.out HZ2.out rfl (by decide) _ _ _ rfl (World.ownsRow_made w #[] 0 (Nat.le_refl _) (Nat.zero_le _) rfl) ad n c (puts l) rfl ?qc1 ?qc2 ?qc3 ?qc4 ?qc5 ?qc6 ?_)
    case qc1 => exact HPL.out
    case qc2 =>
      intro j u hj
      have := HC.out ad rfl j u hj
      rw [World.cell?_alloc_lt _ _ _ (block_lt_of_cell this)]
      exact this
    case qc3 => exact puts_one l
    case qc4 => unfold maxLen; omega
    case qc5 => omega
    case qc6 => simp
    intro v' w1 hown hgrow hnil
    have hb : Below w.heap.size w w1 := ((Below.refl _ w).alloc (Nat.le_refl _) _).grown hgrow (by simp) (by intro k hk; simp [Value.ownBlock] at hk; omega)
    clear hgrow hnil
    go_wp2
    go_ret
    exact ⟨v', rfl, hown, hb, hb.size⟩

set_option maxRecDepth 100000 in
theorem way1_any (x : Int) (s : ByteArray) (w : World) : Calls Try.prog 28 #[.agg #[.int .i64 x, .string s]] w fun e w' => e = .returned (.bool (isBar (x, s))) ∧ Below w.heap.size w w' := by
  obtain ⟨q, HQ⟩ : ∃ q, Hid (pkN x 17 = q) := ⟨_, rfl⟩
  have HB : Hid (isBar (x, s) = decide ((q : Int) = 16)) := by
    show _ = _
    unfold isBar
    show (pkN x 17 == 16) = _
    rw [HQ.out, Bool.eq_iff_iff]
    simp
    omega
  have HPK : Hid (∀ W : World, Calls Try.prog 14 #[.int .i64 x, .int .i64 17] W fun e w' => e = .returned (.int .i64 (q : Int)) ∧ W = w') := fun W => by
    have := pickN x 17 W (by omega) (by omega)
    rw [HQ.out] at this
    exact this
  go_enter Try.func28, Try.ntmps28
  go_wp2_with fail
  refine (HPK.out _).mono ?_
  rintro e w' ⟨rfl, rfl⟩
  go_wp2
  go_ret
  rw [HB.out]
  refine ⟨?_, (Below.refl _ _).alloc (Nat.le_refl _) _⟩
  first | rfl | simp
theorem way1_any_eg : ∀ args w, (callFunc 28 args).run Try.prog w = .ok (.enter 28 args) w := Go.Proofs.enters_of Try.func28 (by kernel_rfl) rfl
set_option maxRecDepth 100000 in
theorem once1_any (x : Int) (s : ByteArray) (w : World) : Calls Try.prog 44 #[.agg #[.int .i64 x, .string s]] w fun e w' => e = .returned (.bool (isBar (x, s))) ∧ Below w.heap.size w w' := by
  obtain ⟨q, HQ⟩ : ∃ q, Hid (pkN x 17 = q) := ⟨_, rfl⟩
  have HB : Hid (isBar (x, s) = decide ((q : Int) = 16)) := by
    show _ = _
    unfold isBar
    show (pkN x 17 == 16) = _
    rw [HQ.out, Bool.eq_iff_iff]
    simp
    omega
  have HPK : Hid (∀ W : World, Calls Try.prog 14 #[.int .i64 x, .int .i64 17] W fun e w' => e = .returned (.int .i64 (q : Int)) ∧ W = w') := fun W => by
    have := pickN x 17 W (by omega) (by omega)
    rw [HQ.out] at this
    exact this
  go_enter Try.func44, Try.ntmps44
  go_wp2_with fail
  refine (HPK.out _).mono ?_
  rintro e w' ⟨rfl, rfl⟩
  go_wp2
  go_ret
  rw [HB.out]
  refine ⟨?_, (Below.refl _ _).alloc (Nat.le_refl _) _⟩
  first | rfl | simp
theorem once1_any_eg : ∀ args w, (callFunc 44 args).run Try.prog w = .ok (.enter 44 args) w := Go.Proofs.enters_of Try.func44 (by kernel_rfl) rfl
set_option maxRecDepth 100000 in
theorem barrier1_any (x : Int) (s : ByteArray) (w : World) : Calls Try.prog 36 #[.agg #[.int .i64 x, .string s]] w fun e w' => e = .returned (.bool (isBar (x, s))) ∧ Below w.heap.size w w' := by
  obtain ⟨q, HQ⟩ : ∃ q, Hid (pkN x 17 = q) := ⟨_, rfl⟩
  have HB : Hid (isBar (x, s) = decide ((q : Int) = 16)) := by
    show _ = _
    unfold isBar
    show (pkN x 17 == 16) = _
    rw [HQ.out, Bool.eq_iff_iff]
    simp
    omega
  have HPK : Hid (∀ W : World, Calls Try.prog 14 #[.int .i64 x, .int .i64 17] W fun e w' => e = .returned (.int .i64 (q : Int)) ∧ W = w') := fun W => by
    have := pickN x 17 W (by omega) (by omega)
    rw [HQ.out] at this
    exact this
  go_enter Try.func36, Try.ntmps36
  go_wp2_with fail
  refine (HPK.out _).mono ?_
  rintro e w' ⟨rfl, rfl⟩
  go_wp2
  go_ret
  rw [HB.out]
  refine ⟨?_, (Below.refl _ _).alloc (Nat.le_refl _) _⟩
  first | rfl | simp
theorem barrier1_any_eg : ∀ args w, (callFunc 36 args).run Try.prog w = .ok (.enter 36 args) w := Go.Proofs.enters_of Try.func36 (by kernel_rfl) rfl

end Go.Proofs.Ythkcnihmfeilgaa
