/- BitsList: for every set the statement returns true and leaves its argument alone. No conditions. -/
import Derived.Test.YtnmfbhiooccgfaaBitsListP
import Derived.Test.YtnmfbhiooccgfaaOpenSet
namespace Go.Proofs.Ytnmfbhiooccgfaa
open Go.ChangeShapes Go.WideShapes Go.ChangeAt Go.RowKit

set_option maxRecDepth 100000 in
set_option maxHeartbeats 2000000 in
theorem bitsList_raw (s : Nat → Bool) (A : Array Value) (HA : Hid (A = enc s)) (w : World) :
    Calls Try.prog 5 #[.agg A] w fun e w' => e = .returned (.bool true) ∧ Below w.heap.size w w' := by
  have HS : Hid (A.size = 32) := by rw [HA.out]; exact enc_size s
  have HC : Hid (∀ W : World, Calls Try.prog 15 #[.agg A] W fun e w' => e = .returned (.int .i64 (cntTo s 256)) ∧ Below W.heap.size W w') := fun W => by
    rw [HA.out]; exact count_any s W
  go_enter Try.func5, Try.ntmps5
  go_wp2_with fail
  refine (counted_true _).mono ?_
  rintro e w1 ⟨rfl, hb1⟩
  have k1 := Lib.hid (heap_below hb1 (heap_alloc_new w (.cells A 23)))
  have kB : Below w.heap.size w w1 := ((Below.refl _ _).alloc (Nat.le_refl _) _).trans (hb1.mono (by simp))
  clear hb1
  go_wp2_with (first
    | (refine wpList_alloc_row rfl 23 rfl (enc emp) setZ ?_)
    | (refine wpList_load_row rfl 23 (.tmp 1) rfl w.heap.size rfl 23 A (0, 0) _ (heap_alloc_keep k1.out _) setT rfl (by rw [HS.out]; exact setI) ?_))
  refine (list_raw s A HA _).mono ?_
  rintro e w2 ⟨v, rfl, hown, hb2⟩
  have k2 := Lib.hid (heap_below hb2 (heap_alloc_keep k1.out _))
  have kt2 := Lib.hid (heap_below hb2 (heap_alloc_new w1 (.cells (enc emp) 23)))
  have kB2 : Below w.heap.size w w2 := (kB.alloc kB.size _).trans (hb2.mono (by have := kB.size; simp; omega))
  have hsz := heap_lt k1.out
  clear k1 kB hb2
  simp only [World.size_alloc] at hown
  generalize w1.heap.size = g1 at *
  obtain ⟨p, cap, hv, hcell⟩ : ∃ p cap, v = .slice p (cntTo s 256) cap ∧ Hid (0 < cntTo s 256 → ∃ g, p = some ⟨g, 0, none⟩ ∧ g1 < g ∧ ∀ j (hj : j < (lst s 256).length), w2.cell? ⟨g, j, none⟩ = some (.int .i64 ((lst s 256)[j] : Nat))) := by
    have hlen := lst_len s 256
    rcases hown with ⟨h1, ⟨rfl, h3⟩ | ⟨g, cap, cur, rfl, hg, hh, _, _, _, ht⟩⟩
    · refine ⟨none, 0, by rw [h3], fun h => by omega⟩
    · refine ⟨_, cap, rfl, fun _ => ⟨g, rfl, by omega, fun j hj => ?_⟩⟩
      rw [cell_of_row _ _ _ _ _ _ hh]
      have h4 : (cur.toList.take (cntTo s 256 * 1))[j]? = some (.int .i64 ((lst s 256)[j] : Nat)) := by
        rw [ht]; simp [ints, hj]
      rw [List.getElem?_take] at h4
      split at h4
      · simpa using h4
      · cases h4
  subst hv
  clear hown
  have HLen := Lib.hid (lst_len s 256)
  have hN := cntTo_le s 256
  obtain ⟨L, HL⟩ : ∃ L, Hid (L = lst s 256) := ⟨_, rfl⟩
  have HX : Hid (∀ x, x ∈ L → x < 256) := fun x hx => by rw [HL.out] at hx; exact ((mem_lst s x 256).1 hx).1
  have HR : Hid (∀ i (h : i + 1 < L.length), L[i] < L[i + 1]) := by rw [HL.out]; exact fun i h => lst_rise s 256 i h
  have HE : Hid (enc (memOf L) = A) := by rw [HL.out, HA.out]; exact enc_congr fun m hm => memOf_lst s m hm
  rw [← HL.out] at hcell HLen
  generalize cntTo s 256 = N at *
  have hLN : L.length = N := HLen.out
  have HLN := Lib.hid hLN
  clear hLN HLen
  go_wp2
  go_loopw [13] (fun i wr => ∃ k : Nat, k ≤ N ∧ i = .int .i64 k ∧ Below w.heap.size w wr ∧ Hid (wr.heap[w.heap.size]? = some (.cells A 23 (0, 0))) ∧ Hid (wr.heap[g1]? = some (.cells (enc (memOf (L.take k))) 23 (0, 0)))
      ∧ Hid (0 < N → ∃ g, p = some ⟨g, 0, none⟩ ∧ g1 < g ∧ ∀ j (hj : j < L.length), wr.cell? ⟨g, j, none⟩ = some (.int .i64 (L[j] : Nat)))) (fun i _ => N - (intOf i).toNat)
  case atStart => exact ⟨0, Nat.zero_le _, rfl, kB2, k2, kt2, hcell⟩
  case round =>
    obtain ⟨k, hk, rfl, HB, H0, H1, H2⟩ := hrel
    by_cases hlt : k < N
    · obtain ⟨g, hp, hg, hc⟩ := H2.out (by omega)
      subst hp
      have hkL : k < L.length := by rw [HLN.out]; exact hlt
      have c0 : wr.cell? ⟨g, k, none⟩ = some (.int .i64 (L[k] : Nat)) := hc k hkL
      have hx := HX.out L[k] (List.getElem_mem hkL)
      have HT : Hid (enc (ins (memOf (L.take k)) L[k]) = enc (memOf (L.take (k + 1)))) := by
        rw [memOf_snoc, List.take_append_getElem hkL]; exact rfl
      obtain ⟨x, hxe⟩ : ∃ x, x = L[k] := ⟨_, rfl⟩
      rw [← hxe] at c0 hx HT
      have HXE := Lib.hid hxe
      clear hxe
      have HC2 := Lib.hid hc
      clear hc H2
      have c1 : 0 < k → ∃ y : Nat, y < x ∧ wr.cell? ⟨g, k - 1, none⟩ = some (.int .i64 (y : Nat)) := fun h0 => by
        refine ⟨L[k - 1], ?_, HC2.out (k - 1) (by omega)⟩
        rw [HXE.out]
        have := HR.out (k - 1) (by omega)
        have e : k - 1 + 1 = k := by omega
        simp only [e] at this
        exact this
      have C1 := Lib.hid c1
      clear c1
      rcases Nat.eq_zero_or_pos k with h0 | h0
      · have hd : decide ((0 : Int) < (k : Int)) = false := by simp; omega
        have hk0 : k ≤ 0 := by omega
        clear h0
        go_wp2_with (first
          | (refine wpList_load_row rfl 23 (.tmp 3) rfl g1 rfl 23 (enc (memOf (L.take k))) (0, 0) _ H1.out setT rfl (by rw [enc_size]; exact setI) ?_)
          | (go_at_call 13; refine (with_in _ _ _ (by omega) (by omega)).mono ?_; rw [Int.toNat_natCast, HT.out]; rintro e w3 ⟨rfl, hb3⟩)
          | (refine wpList_store_row rfl 23 (.tmp 3) (.tmp 31) rfl g1 _ rfl rfl 23 (enc (memOf (L.take k))) (heap_below hb3 H1.out) (by rw [enc_size]; exact setI) (by rw [enc_size, enc_size]) (enc_one _) ?_))
        go_roundw
        case rel =>
          have hg1 := heap_lt H1.out
          refine ⟨k + 1, by omega, by go_num, Below.setRow (Below.step HB hb3) (by omega) _, heap_setRow_keep (heap_below hb3 H0.out) _ _ (by omega), setRow_heap _ _ _ _ _ _ (heap_below hb3 H1.out), fun _ => ⟨g, rfl, hg, fun j hj => ?_⟩⟩
          rw [cell_setRow_other _ _ _ _ (by show g ≠ g1; omega)]
          have h5 := HC2.out j hj
          rw [hb3.cell (block_lt_of_cell h5)]
          exact h5
        case measure => simp [intOf]; omega
      · obtain ⟨y, hy, c1⟩ := C1.out h0
        have hd : decide ((0 : Int) < (k : Int)) = true := by simp; omega
        have hge : ¬ ((x : Int) ≤ (y : Int)) := by omega
        go_wp2_with (first
          | (refine wpList_load_row rfl 23 (.tmp 3) rfl g1 rfl 23 (enc (memOf (L.take k))) (0, 0) _ H1.out setT rfl (by rw [enc_size]; exact setI) ?_)
          | (go_at_call 13; refine (with_in _ _ _ (by omega) (by omega)).mono ?_; rw [Int.toNat_natCast, HT.out]; rintro e w3 ⟨rfl, hb3⟩)
          | (refine wpList_store_row rfl 23 (.tmp 3) (.tmp 31) rfl g1 _ rfl rfl 23 (enc (memOf (L.take k))) (heap_below hb3 H1.out) (by rw [enc_size]; exact setI) (by rw [enc_size, enc_size]) (enc_one _) ?_))
        go_roundw
        case rel =>
          have hg1 := heap_lt H1.out
          refine ⟨k + 1, by omega, by go_num, Below.setRow (Below.step HB hb3) (by omega) _, heap_setRow_keep (heap_below hb3 H0.out) _ _ (by omega), setRow_heap _ _ _ _ _ _ (heap_below hb3 H1.out), fun _ => ⟨g, rfl, hg, fun j hj => ?_⟩⟩
          rw [cell_setRow_other _ _ _ _ (by show g ≠ g1; omega)]
          have h5 := HC2.out j hj
          rw [hb3.cell (block_lt_of_cell h5)]
          exact h5
        case measure => simp [intOf]; omega
    · have hkN : k = N := by omega
      have HKN := Lib.hid hkN
      have H1' : Hid (wr.heap[g1]? = some (.cells A 23 (0, 0))) := by
        have := H1.out
        rw [List.take_of_length_le (by rw [HLN.out]; omega), HE.out] at this
        exact this
      clear H1 hkN
      have hE : ∀ W, (Op.equalIn 10000 23 (.agg A) (.agg A)).run Try.prog W = .ok true W := fun W => by rw [HA.out]; exact run_eql_sets_true (fun _ _ => rfl) W
      have hG := setG
      go_wp2_with (first
        | (refine wpList_load_row rfl 23 (.tmp 3) rfl g1 rfl 23 A (0, 0) _ H1'.out setT rfl (by rw [HS.out]; exact setI) ?_)
        | (refine wpList_load_row rfl 23 (.tmp 1) rfl w.heap.size rfl 23 A (0, 0) _ H0.out setT rfl (by rw [HS.out]; exact setI) ?_)
        | (refine wpList_load_row_g rfl 23 (.tmp 1) rfl w.heap.size rfl 23 A (0, 0) _ H0.out setT rfl (by rw [HS.out]; exact setI) ?_)
        | (go_at_call 15; refine (HC.out _).mono ?_; rintro e w3 ⟨rfl, hb3⟩))

      go_ret
      exact ⟨rfl, Below.step HB hb3⟩

-- CLOSING

set_option maxRecDepth 100000 in
theorem bitsList_lifted (os : Os) (started : os.Started) (H : Type) (enc' : TypeId × Value → H) :
    ReturnsInHanded {} Try.checked os 5 .any (Rows.bitsListSpec.pre6 enc' Try.prog Try.f5 Rows.bitsListRow.domain false) (Rows.bitsListSpec.post enc' Try.prog Try.f5 false true false false) := by
  refine returnsInHanded_of_change (C := Try.checked) Try.own started (by kernel_rfl) Try.func5
    (ChangeSpec.witness6 (enc := enc') (C := Try.checked) false ⟨#[], #[.agg (Array.replicate 32 (.int .u8 0))], []⟩ 8 (by kernel_rfl) (by kernel_rfl) (by kernel_rfl) (by kernel_rfl)) ?_
  intro W base args ds gs before hval0 hW hcnd _
  have hval : ∀ (j : Nat) t v, Try.f5.params[j]? = some t → args[j]? = some v → Value.okWide Try.prog W .any base t v := hval0
  have hW' := hW
  obtain ⟨p, q, hA0, hV, rfl, hfz, hnd⟩ := hW
  have hA : DataW.TrodAll enc' Try.prog W 0 (fun _ => true) true Try.f5.params.toList args.toList ds p := hA0
  rw [Try.params5] at hA hval
  obtain ⟨v0, d0, rfl, rfl, h0⟩ := trodAll_one hA
  obtain ⟨rfl, rfl⟩ := trodVars_none hV
  obtain ⟨s, rfl⟩ := open_set (hval 0 23 v0 rfl rfl) h0
  clear hA0 hval0
  refine (bitsList_raw s _ rfl W).mono fun e W' ⟨he, hw⟩ => ?_
  subst he
  exact ⟨_, rfl, law_post 4 Try.laidOut (by kernel_rfl) rfl rfl Try.underlying4 hW' rfl hw⟩

theorem bitsList_holds : Rows.BitsListSaid :=
  OpenClaim.holds_of_wide 5 Try.f5 rfl rfl rfl rfl rfl rfl rfl ⟨rfl, rfl, rfl, rfl, rfl⟩ rfl rfl rfl rfl rfl (by kernel_rfl) Try.func5 (by kernel_rfl)
    (of_decide_eq_true (by kernel_rfl)) (by unfold Func.isWrapper; first | (rw [if_pos (by decide +kernel)]; kernel_rfl) | (rw [if_neg (by decide +kernel)]; exact ⟨rfl, rfl⟩))
    (fun os started H enc _ => bitsList_lifted os started H enc)

end Go.Proofs.Ytnmfbhiooccgfaa
