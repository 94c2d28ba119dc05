/- The fact buffered. -/
import Derived.Test.YthkcnihmfeilgaaBufUsed
import Derived.Test.YthkcnihmfeilgaaEqI
namespace Go.Proofs.Ythkcnihmfeilgaa
open Go.RowKit

def xB : ByteArray := { data := #[120] }
theorem buf1 (st : Dk) (X : List Int) : useA 1 [] st (2, X, true) = ([(2, X, true)], st) := rfl
theorem buf2 (st : Dk) (X : List Int) : seeA [(2, X, true)] st 2 = (X, true) ∧ useA 1 [(2, X, true)] st (2, X, true) = ([(2, X, true)], st) := ⟨rfl, rfl⟩
theorem buf3 (st : Dk) (X Z : List Int) : seeA [(2, X, true)] st 3 = (sec st.N 3, false) ∧ useA 1 [(2, X, true)] st (3, Z, false) = ([(3, Z, false)], writeE st 2 X) := ⟨rfl, rfl⟩

set_option maxRecDepth 100000 in
set_option maxHeartbeats 4000000 in
theorem buffered_true (w : World) : Calls Try.prog 12 #[] w fun e w' => e = .returned (.bool true) ∧ Below w.heap.size w w' := by
  obtain ⟨X, HX⟩ : ∃ X, Hid (X = secS xB) := ⟨_, rfl⟩
  have HXL : Hid (X.length = 64) := by rw [HX.out]; exact secS_len _
  obtain ⟨S0, HS0⟩ : ∃ S, Hid (S = freshE 16) := ⟨_, rfl⟩
  have HW0 : Hid (S0.W.length = 0) := by rw [HS0.out]; rfl
  have HZ0 : Hid (sec S0.N 3 = secS { data := #[] }) := by rw [HS0.out]; exact zeros_sec
  go_enter Try.func12, Try.ntmps12
  go_wp2_with fail
  refine (new_any 16 16 rfl (by omega) (by omega) _).mono ?_
  rintro e w1 ⟨d, F0, rfl, hd, hF0, hb0, _⟩
  obtain ⟨a, rfl⟩ := hd.ptr
  rw [← HS0.out] at hd
  have HD := Lib.hid hd
  have HF0 := Lib.hid hF0
  have HB0 := Lib.hid hb0
  clear hd hF0 hb0
  go_wp2_with fail
  refine (bufnew_any HD.out 1 1 rfl (by omega) (by omega)).mono ?_
  rintro e w2 ⟨rfl, hb2, hc2⟩
  have hz := HB0.out.size
  have H2 : Hid (OwnC w (.pointer (some ⟨w1.heap.size, 0, none⟩)) (.pointer (some a)) 1 ([], S0) w2) := ⟨_, F0, hc2, fun i hi => by rw [hi]; exact hz, HF0.out, Below.step HB0.out hb2⟩
  clear hb2 hc2 hz
  obtain ⟨gc, HGC⟩ : ∃ gc, Hid (w1.heap.size = gc) := ⟨_, rfl⟩
  rw [HGC.out] at H2 ⊢
  go_wp2_with fail
  refine (sector_any xB _).mono ?_
  rw [← HX.out]
  rintro e w3 ⟨v3, rfl, hv3⟩
  have HV3 := Lib.hid hv3.at
  have H3 := Lib.hid (H2.out.below hv3.below)
  clear hv3
  go_wp2_with fail
  obtain ⟨A3, F3, hC3, hA3, hF3, hB3⟩ := H3.out
  refine (put_any hC3 2 (by omega) _ X HV3.out HXL.out (by show S0.W.length < 1000000; have := HW0.out; omega)).mono ?_
  rintro e w4 ⟨rfl, hdid⟩
  rw [show (([] : List Ab), S0).1 = [] from rfl, show (([] : List Ab), S0).2 = S0 from rfl, buf1] at hdid
  have H4 : Hid (OwnC w (.pointer (some ⟨gc, 0, none⟩)) (.pointer (some a)) 1 ([(2, X, true)], S0) w4) := OwnC.did hA3 hF3 hB3 hdid
  clear hdid hC3 hA3 hF3 hB3 H3 H2
  go_wp2_with fail
  obtain ⟨A4, F4, hC4, hA4, hF4, hB4⟩ := H4.out
  refine (get_any hC4 2 (by omega) (by show S0.W.length < 1000000; have := HW0.out; omega)).mono ?_
  rintro e w5 hget
  have h5 := OwnC.got hA4 hF4 hB4 hget
  obtain ⟨v5, A5, F5, rfl, hC5, hA5, hF5, hk5, g5, cap5, cur5, rfl, _, hg5, hnA, hnF, hh5, ht5⟩ := hget
  have e2 : useA 1 [(2, X, true)] S0 (2, seeA [(2, X, true)] S0 2) = ([(2, X, true)], S0) := by rw [(buf2 S0 X).1]; exact (buf2 S0 X).2
  have e2' : (seeA [(2, X, true)] S0 2).1 = X := by rw [(buf2 S0 X).1]
  have hC5' : CacheAt w5 (.pointer (some ⟨gc, 0, none⟩)) (.pointer (some a)) 1 [(2, X, true)] S0 16 A5 F5 := by
    have := hC5
    rw [show (([(2, X, true)] : List Ab), S0).1 = [(2, X, true)] from rfl, show (([(2, X, true)] : List Ab), S0).2 = S0 from rfl, e2] at this
    exact this
  have ht5' : cur5.toList.take 64 = u8s X := by rw [← e2']; exact ht5
  have hz4 := hB4.size
  have H5 : Hid (CacheAt w5 (.pointer (some ⟨gc, 0, none⟩)) (.pointer (some a)) 1 [(2, X, true)] S0 16 A5 F5 ∧ (∀ i, A5 i → w.heap.size ≤ i) ∧ (∀ i, F5 i → w.heap.size ≤ i) ∧ Below w.heap.size w w5) :=
    ⟨hC5', fun i hi => (hA5 i hi).elim (hA4 i) (fun h => Nat.le_trans hz4 h), fun i hi => (hF5 i hi).elim (hF4 i) (fun h => Nat.le_trans hz4 h), hk5.own hA4 hF4 hB4⟩
  have HG5 : Hid (w5.heap[g5]? = some (.cells cur5 5 (0, 0)) ∧ cur5.toList.take 64 = u8s X ∧ ¬ A5 g5 ∧ ¬ F5 g5) := ⟨hh5, ht5', hnA, hnF⟩
  clear h5 hC5 hA5 hF5 hk5 hg5 hnA hnF hh5 ht5 e2 e2' hC5' ht5' hz4 hC4 hA4 hF4 hB4 H4
  go_wp2_with fail
  obtain ⟨E5, _, gq, lq, _, _, hD5, _⟩ := H5.out.1
  refine ((waiting_at hD5).mono (fun e w' h => (⟨h.1.trans (ret_i (by rw [HW0.out]; rfl)), h.2⟩ : e = .returned (.int .i64 0) ∧ w5 = w'))).mono ?_
  rintro e w' ⟨rfl, rfl⟩
  clear hD5
  go_upto_region 9 with fail
  go_cut [1, 2, 3, 4, 5, 6, 7, 8] (fun s1 s2 s3 s4 s5 s6 s7 s8 wx => s1 = .pointer (some a) ∧ s2 = .int .i64 0 ∧ s3 = .pointer (some ⟨gc, 0, none⟩) ∧ s5 = .int .i64 0 ∧ s6 = .int .i64 0 ∧ s8 = .int .i64 0 ∧ Hid ((∃ g5 cap5, s4 = .slice (some ⟨g5, 0, none⟩) 64 cap5) ∧ (∃ g6 cap6, s7 = .slice (some ⟨g6, 0, none⟩) 64 cap6) ∧ BytesAt wx s4 X ∧ BytesAt wx s7 (secS { data := #[] }) ∧ (∃ A F, CacheAt wx (.pointer (some ⟨gc, 0, none⟩)) (.pointer (some a)) 1 [(3, secS { data := #[] }, false)] (writeE S0 2 X) 16 A F) ∧ Below w.heap.size w wx))
  case first =>
    go_wp2_with fail
    refine (get_any H5.out.1 3 (by omega) (by have := HW0.out; omega)).mono ?_
    rintro e w6 hget
    obtain ⟨v6, A6, F6, rfl, hC6, hA6, hF6, hk6, g6, cap6, cur6, rfl, _, hg6, hnA6, hnF6, hh6, ht6⟩ := hget
    rw [(buf3 S0 X []).1, HZ0.out] at hC6 ht6
    rw [(buf3 S0 X _).2] at hC6
    have hB6 : Below w.heap.size w w6 := hk6.own H5.out.2.1 H5.out.2.2.1 H5.out.2.2.2
    have hc6 : BytesAt w6 (.slice (some ⟨g5, 0, none⟩) 64 cap5) X := bytes_of_row HXL.out ((hk6.block g5 (heap_lt HG5.out.1) (fun h => h.elim HG5.out.2.2.1 HG5.out.2.2.2)).trans HG5.out.1) HG5.out.2.1
    have hc6' : BytesAt w6 (.slice (some ⟨g6, 0, none⟩) 64 cap6) (secS { data := #[] }) := bytes_of_row (secS_len _) hh6 ht6
    have HR6 : Hid (BytesAt w6 (.slice (some ⟨g5, 0, none⟩) 64 cap5) X ∧ BytesAt w6 (.slice (some ⟨g6, 0, none⟩) 64 cap6) (secS { data := #[] }) ∧ CacheAt w6 (.pointer (some ⟨gc, 0, none⟩)) (.pointer (some a)) 1 [(3, secS { data := #[] }, false)] (writeE S0 2 X) 16 A6 F6 ∧ Below w.heap.size w w6) := ⟨hc6, hc6', hC6, hB6⟩
    clear hC6 hA6 hF6 hk6 hg6 hnA6 hnF6 hh6 ht6 hB6 hc6 hc6'
    go_wp2_with fail
    go_meet
    case rel => exact ⟨rfl, rfl, rfl, rfl, rfl, rfl, ⟨_, _, rfl⟩, ⟨_, _, rfl⟩, HR6.out.1, HR6.out.2.1, ⟨A6, F6, HR6.out.2.2.1⟩, HR6.out.2.2.2⟩
  case rest =>
  obtain ⟨rfl, rfl, rfl, rfl, rfl, rfl, HR⟩ := hcut
  clear H5 HG5
  obtain ⟨w6, hw6⟩ : ∃ x, x = wc := ⟨_, rfl⟩
  subst hw6
  obtain ⟨⟨g5, cap5, rfl⟩, ⟨g6, cap6, rfl⟩, hc6, hc6', ⟨A6, F6, hC6⟩, hB6⟩ := HR.out
  obtain ⟨B, HBB⟩ : ∃ B, Hid (B = bytesS X) := ⟨_, rfl⟩
  obtain ⟨B0, HB0'⟩ : ∃ B, Hid (B = bytesS (secS { data := #[] })) := ⟨_, rfl⟩
  have HS : Hid (∀ W, Below w6.heap.size w6 W → (convert 26 9 (.slice (some ⟨g5, 0, none⟩) 64 cap5)).run Try.prog W = .ok (.string B) W ∧ (convert 26 9 (.slice (some ⟨g6, 0, none⟩) 64 cap6)).run Try.prog W = .ok (.string B0) W) := fun W hW => by
    rw [HBB.out, HB0'.out]
    exact ⟨conv_bytes (RowAt.below hc6 hW) (by rw [HXL.out]; omega), conv_bytes (RowAt.below hc6' hW) (by rw [secS_len]; omega)⟩
  have HCW : Hid (∀ W, Below w6.heap.size w6 W → CacheAt W (.pointer (some ⟨gc, 0, none⟩)) (.pointer (some a)) 1 [(3, secS { data := #[] }, false)] (writeE S0 2 X) 16 A6 F6) := fun W hW => hC6.below hW
  have HWT : Hid (∀ W, Below w6.heap.size w6 W → Calls Try.prog 48 #[.pointer (some a)] W fun e w' => ∃ v, e = .returned v ∧ v = .int .i64 1 ∧ W = w') := fun W hW => by
    obtain ⟨E', _, _, _, _, _, hD, _⟩ := HCW.out W hW
    refine (waiting_at hD).mono fun e w' h => ⟨_, h.1, ?_, h.2⟩
    have : (writeE S0 2 X).W.length = 1 := by
      have h0 : S0.fu = -1 := by rw [HS0.out]; rfl
      unfold writeE
      rw [if_neg (by rw [h0]; omega), List.length_append, HW0.out]
      rfl
    rw [this]; rfl
  have HBW := Lib.hid hB6
  have b0 : Below w6.heap.size w6 w6.drew := (Below.refl _ _).drew
  have hc1 := HS.out w6.drew b0
  have HEX : Hid (∀ (v : Value) (W : World), BytesAt W v X → (convert 26 9 v).run Try.prog W = .ok (.string B) W) := fun v W h => by rw [HBB.out]; exact conv_bytes h (by rw [HXL.out]; omega)
  have HE0 : Hid (∀ (v : Value) (W : World), BytesAt W v (secS { data := #[] }) → (convert 26 9 v).run Try.prog W = .ok (.string B0) W) := fun v W h => by rw [HB0'.out]; exact conv_bytes h (by rw [secS_len]; omega)
  have HNEW : Hid (∀ W : World, IntsAt (W.alloc (.cells #[.int .i64 3] 3)) (.slice (some ⟨W.heap.size, 0, none⟩) 1 1) [3]) := fun W => ⟨rfl, Or.inr ⟨W.heap.size, 0, 1, rfl, fun j x hx => by
    rw [Nat.zero_add, cell_of_row _ _ _ _ _ _ (heap_alloc_new W _)]
    simpa [ints] using hx⟩⟩
  have HEQ : Hid (eqL [3] [3] = true) := by show _ = _; decide
  clear hC6 hB6 hc6 hc6' HR
  go_wp2_with fail
  refine wp_region_noPanic ?_
  go_region_held_law (fun w' => (convert 26 9 (.slice (some ⟨g5, 0, none⟩) 64 cap5)).run Try.prog w' = .ok (.string B) w' ∧ (convert 26 9 (.slice (some ⟨g6, 0, none⟩) 64 cap6)).run Try.prog w' = .ok (.string B0) w')
    (first
      | exact hc1
      | exact m7
      | exact m8
      | exact m9
      | exact m10
      | exact HS.out _ (b8.alloc b8.size _)
      | exact HS.out _ (b9.alloc b9.size _)
      | (go_keep; done))
    (first
      | (go_at_call 15; (with_reducible refine (sector_any { data := #[120] } w6.drew).mono ?_); rintro e w7 ⟨v7, rfl, hv7⟩
         have b7 : Below w6.heap.size w6 w7 := b0.trans hv7.below
         have m7 := HS.out w7 b7
         have k7 := HEX.out v7 w7 (by rw [HX.out]; exact hv7.at)
         clear hv7)
      | (go_at_call 15; (with_reducible refine (sector_any { data := #[] } w7).mono ?_); rintro e w8 ⟨v8, rfl, hv8⟩
         have b8 : Below w6.heap.size w6 w8 := b7.trans (hv8.below.mono b7.size)
         have m8 := HS.out w8 b8
         have k8 := HE0.out v8 w8 hv8.at
         clear hv8)
      | (go_at_call 48; (with_reducible refine (HWT.out _ b8).mono ?_); rintro e w9 ⟨v9, rfl, rfl, rfl⟩)
      | (go_at_call 18; (with_reducible refine (held_any (HCW.out _ b8)).mono ?_); rintro e w9 ⟨v9, rfl, ho9, hb9⟩
         have b9 : Below w6.heap.size w6 w9 := b8.trans (hb9.mono b8.size)
         have m9 := HS.out w9 b9
         have HI9 : Hid (IntsAt w9 v9 [3]) := RowAt.of_owns ho9
         have HQ9 : Hid (Calls Try.prog 19 #[v9, .slice (some ⟨w9.heap.size, 0, none⟩) 1 1] (w9.alloc (.cells #[.int .i64 3] 3)) fun e w' => e = .returned (.bool true) ∧ Below w6.heap.size w6 w') := by
           have := equalInts_any v9 (.slice (some ⟨w9.heap.size, 0, none⟩) 1 1) [3] [3] (w9.alloc (.cells #[.int .i64 3] 3)) (RowAt.below HI9.out ((Below.refl _ _).alloc (Nat.le_refl _) _)) (HNEW.out w9) (by simp) (by simp)
           rw [HEQ.out] at this
           exact this.mono fun e w' h => ⟨h.1, (b9.alloc b9.size _).trans (h.2.mono (b9.alloc b9.size _).size)⟩
         clear ho9 hb9)
      | (go_at_call 18; (with_reducible refine (held_any (HCW.out _ (b8.alloc b8.size _))).mono ?_); rintro e w9 ⟨v9, rfl, ho9, hb9⟩
         have b9 : Below w6.heap.size w6 w9 := (b8.alloc b8.size _).trans (hb9.mono (b8.alloc b8.size _).size)
         have m9 := HS.out w9 b9
         have HI9 : Hid (IntsAt w9 v9 [3]) := RowAt.of_owns ho9
         have HQ9 : Hid (Calls Try.prog 19 #[v9, .slice (some ⟨w8.heap.size, 0, none⟩) 1 1] w9 fun e w' => e = .returned (.bool true) ∧ Below w6.heap.size w6 w') := by
           have := equalInts_any v9 (.slice (some ⟨w8.heap.size, 0, none⟩) 1 1) [3] [3] w9 HI9.out (RowAt.below (HNEW.out w8) hb9) (by simp) (by simp)
           rw [HEQ.out] at this
           exact this.mono fun e w' h => ⟨h.1, b9.trans (h.2.mono b9.size)⟩
         clear ho9 hb9)
      | (go_at_call 19; (with_reducible refine HQ9.out.mono ?_); rintro e w10 ⟨rfl, b10⟩
         have m10 := HS.out w10 b10))
  all_goals
    refine NoPanic.normal ?_
    go_wp2
    go_ret
    exact ⟨rfl, HBW.out.trans (b10.mono HBW.out.size)⟩

end Go.Proofs.Ythkcnihmfeilgaa
