/- DiskFlush: for all writes and whatever is kept the statement returns true and leaves its arguments alone. No conditions. -/
import Derived.Test.YtappfgjomndlmaaDiskLast
namespace Go.Proofs.Ytappfgjomndlmaa
open Go.ChangeShapes Go.WideShapes Go.ChangeAt Go.RowKit

/-- A flush that does not come up within the writes changes nothing of them. -/
theorem spunK_free (l : List (Int × ByteArray)) (a b : Int) : ∀ k, (∀ j : Nat, j < k → (j : Int) ≠ a ∧ (j : Int) ≠ b) → spunK l a k = spunK l b k
  | 0, _ => rfl
  | k + 1, h => by
    have ih := spunK_free l a b k (fun j hj => h j (by omega))
    have := h k (by omega)
    unfold spunK
    rw [if_neg this.1, if_neg this.2, ih]
theorem spun_flushed (l : List (Int × ByteArray)) : spunE l (l.length : Int) = { S := (spunE l (-1)).N, N := (spunE l (-1)).N, W := [], fu := -1 } := by
  have h1 := (spun_last l 0 (by omega) l.length).1
  unfold spunE
  rw [if_pos (by omega), if_neg (by omega), spunK_free l (l.length : Int) (-1) l.length (fun j hj => ⟨by omega, by omega⟩)]
  unfold flushE
  rw [if_neg (by omega), h1]
  rfl
theorem keep_bools {w w1 w' : World} {kv : Value} {K : List Bool} {F : Nat → Prop} (h : BoolsAt w kv K) (hb : Below w.heap.size w w1) (hF : ∀ i, F i → w.heap.size ≤ i) (hk : Keeps F w1 w') : BoolsAt w' kv K :=
  RowAt.below h (hb.trans (hk.to_below hF hb.size))

set_option maxRecDepth 100000 in
set_option maxHeartbeats 4000000 in
theorem diskFlush_raw (v : Value) (l : List (Int × ByteArray)) (kv : Value) (K : List Bool) (w : World) (h : PutsAt w v l) (hl : l.length ≤ maxLen) (hs : ∀ x, x ∈ l → x.2.size ≤ maxLen) (hkv : BoolsAt w kv K) (hK : K.length ≤ maxLen) :
    Calls Try.prog 4 #[v, kv] w fun e w' => e = .returned (.bool true) ∧ Below w.heap.size w w' := by
  have H := Lib.hid h
  have HS := Lib.hid hs
  have HLM := Lib.hid hl
  have HKV := Lib.hid hkv
  obtain ⟨M, HM⟩ : ∃ M, Hid (M = K.length) := ⟨_, rfl⟩
  obtain ⟨pk', cpk, hu⟩ : ∃ p cp, kv = .slice p M cp := by
    rw [HM.out]
    obtain ⟨_, ⟨h0, a0, c0, rfl⟩ | ⟨g, o, cap, rfl, hc⟩⟩ := hkv
    · exact ⟨a0, c0, by rw [h0]⟩
    · exact ⟨_, cap, rfl⟩
  subst hu
  unfold maxLen at hK
  rw [← HM.out] at hK
  clear h hs hl hkv
  go_enter Try.func4, Try.ntmps4
  go_wp2_with fail
  refine (written_true _).mono ?_
  rintro e w1 ⟨rfl, hb1⟩
  have H1 : Hid (PutsAt w1 v l) := RowAt.below H.out hb1
  go_wp2_with fail
  refine (light_any v l _ H1.out HLM.out HS.out).mono ?_
  cases hlt : lightB l with
  | false =>
    rintro e w2 ⟨rfl, hb2⟩
    have hB2 := Below.step hb1 hb2
    clear hlt
    go_wp2
    go_ret
    exact ⟨rfl, hB2⟩
  | true =>
    rintro e w2 ⟨rfl, hb2⟩
    have hB2 := Below.step hb1 hb2
    have H2 : Hid (PutsAt w2 v l) := RowAt.below H1.out hb2
    by_cases hm : 100 < M
    · have hm2 : (100 : Int) < (M : Int) := by omega
      clear hlt
      go_wp2
      go_ret
      exact ⟨rfl, hB2⟩
    · have hm2 : ¬ (100 : Int) < (M : Int) := by omega
      have hl60 : l.length ≤ 60 := by unfold lightB at hlt; simp at hlt; exact hlt.1
      obtain ⟨N, HN⟩ : ∃ N, Hid (N = l.length) := ⟨_, rfl⟩
      rw [← HN.out] at hl60
      obtain ⟨p, cp, hv, _⟩ := puts_open H2.out N HN.out
      subst hv
      clear hlt hb1 hb2
      go_wp2_with fail
      refine (spun_any _ l (N : Int) _ H2.out (by rw [← HN.out]; omega)).mono ?_
      rintro e w3 ⟨a, rfl, F1, hD1, hF1, hb3⟩
      have hfl : spunE l (N : Int) = { S := (spunE l (-1)).N, N := (spunE l (-1)).N, W := [], fu := -1 } := by rw [HN.out]; exact spun_flushed l
      rw [hfl] at hD1
      have HD1 := Lib.hid hD1
      have HF1 := Lib.hid hF1
      have H3 : Hid (PutsAt w3 (.slice p N cp) l) := RowAt.below H2.out hb3
      clear hD1 hF1 hfl
      go_wp2_with fail
      refine (spun_any _ l (-1) _ H3.out (by rw [← HN.out]; omega)).mono ?_
      rintro e w4 ⟨b, rfl, F2, hD2, hF2, hb4⟩
      have HD2 := Lib.hid hD2
      have HF2 := Lib.hid hF2
      have HDD : Hid (DiskAt w4 (.pointer (some a)) { S := (spunE l (-1)).N, N := (spunE l (-1)).N, W := [], fu := -1 } 16 F1) := HD1.out.below hb4
      have hB4 : Below w.heap.size w w4 := Below.step (Below.step hB2 hb3) hb4
      have HF3 : Hid (∀ i, F1 i → w.heap.size ≤ i) := fun i hi => Nat.le_trans hB2.size (HF1.out i hi)
      have HF4 : Hid (∀ i, F2 i → ¬ F1 i) := fun i hi h1 => by have := HD1.out.fin i h1; have := HF2.out i hi; omega
      clear hD2 hF2
      go_wp2_with fail
      refine (waiting_at HDD.out).mono ?_
      rintro e w' ⟨rfl, rfl⟩
      go_wp2_with fail
      refine (crash_at HDD.out _ K (fun w' hk => keep_bools HKV.out hB4 HF3.out hk) (by rw [← HM.out]; omega)).mono ?_
      rintro e w5 ⟨rfl, F5, hD5, hF5, hk5⟩
      have HD5 := Lib.hid hD5
      have HD6 : Hid (DiskAt w5 (.pointer (some b)) (spunE l (-1)) 16 F2) := HD2.out.keep hk5 HF4.out
      have hB5 : Below w.heap.size w w5 := hB4.trans (hk5.to_below HF3.out hB4.size)
      have HEQ : Hid (crashE { S := (spunE l (-1)).N, N := (spunE l (-1)).N, W := [], fu := -1 } K = { S := (spunE l (-1)).N, N := (spunE l (-1)).N, W := [], fu := -1 }) := rfl
      rw [HEQ.out] at HD5
      clear hD5 hF5 hk5 HEQ
      generalize spunE l (-1) = st at *
      go_wp2
      go_loopw [38] (fun i wr => ∃ k : Nat, k ≤ 16 ∧ i = .int .i64 k ∧ Below w5.heap.size w5 wr) (fun i _ => 16 - (intOf i).toNat)
      case atStart => exact ⟨0, Nat.zero_le _, rfl, Below.refl _ _⟩
      case round =>
        obtain ⟨k, hk, rfl, hB⟩ := hrel
        by_cases hlt : k < 16
        · have hlt2 : (k : Int) < 16 := by omega
          have HDa : Hid (DiskAt wr.drew (.pointer (some a)) { S := st.N, N := st.N, W := [], fu := -1 } 16 F5) := (HD5.out.below hB).drew
          have HDb : Hid (DiskAt wr.drew (.pointer (some b)) st 16 F2) := (HD6.out.below hB).drew
          obtain ⟨B, HBB⟩ : ∃ B, Hid (B = bytesS (sec st.N k)) := ⟨_, rfl⟩
          have HSL : Hid (0 < (sec st.N k).length) := by rw [sec_len (k := 16) HD6.out.lens.2 hlt]; exact (by omega : 0 < 64)
          go_wp2_with fail
          refine wp_region_noPanic ?_
          go_region_held_law (fun _ => True) (trivial)
            (first
              | (go_at_call_of 13 (Value.pointer (some a)); refine (at_at HDa.out k hlt).mono ?_; rintro e w7 ⟨v7, rfl, hv7⟩
                 have hc7 : (convert 26 9 v7).run Try.prog w7 = .ok (.string B) w7 := by rw [HBB.out]; exact conv_bytes hv7.at HSL.out
                 have HV7 := Lib.hid hv7
                 have HDc : Hid (DiskAt w7 (.pointer (some b)) st 16 F2) := HDb.out.below hv7.below
                 clear hv7)
              | (go_at_call_of 13 (Value.pointer (some b)); refine (at_at HDc.out k hlt).mono ?_; rintro e w8 ⟨v8, rfl, hv8⟩
                 have hc8 : (convert 26 9 v8).run Try.prog w8 = .ok (.string B) w8 := by rw [HBB.out]; exact conv_bytes hv8.at HSL.out
                 have hc9 : (convert 26 9 v7).run Try.prog w8 = .ok (.string B) w8 := by rw [HBB.out]; exact conv_bytes (RowAt.below HV7.out.at hv8.below) HSL.out
                 have hB8 : Below w5.heap.size w5 w8 := Below.step (Below.step hB.drew HV7.out.below) hv8.below
                 clear hv8))
          all_goals
            refine NoPanic.normal ?_
            go_wp2
            go_roundw
            case rel => exact ⟨k + 1, by omega, by go_num, hB8⟩
            case measure => simp [intOf]; omega
        · obtain rfl : k = 16 := by omega
          go_wp2
          go_ret
          exact ⟨rfl, Below.step hB5 hB⟩

theorem diskFlush_true (v : Value) (l : List (Int × ByteArray)) (h1 : l.length ≤ maxLen) (hx : ∀ x, x ∈ l → x.2.size ≤ maxLen) (kv : Value) (K : List Bool) (hK : K.length ≤ maxLen) (w : World) (h : PutsAt w v l) (hk : BoolsAt w kv K) :
    Calls Try.prog 4 #[v, kv] w fun e w' => e = .returned (.bool true) ∧ Below w.heap.size w w' :=
  diskFlush_raw v l kv K w h h1 hx hk hK

-- CLOSING

set_option maxRecDepth 100000 in
theorem diskFlush_lifted (os : Os) (started : os.Started) (H : Type) (enc' : TypeId × Value → H) :
    ReturnsInHanded {} Try.checked os 4 .any (Rows.diskFlushSpec.pre6 enc' Try.prog Try.f4 Rows.diskFlushRow.domain false) (Rows.diskFlushSpec.post enc' Try.prog Try.f4 false true false false) := by
  refine returnsInHanded_of_change (C := Try.checked) Try.own started (by kernel_rfl) Try.func4
    (ChangeSpec.witness6 (enc := enc') (C := Try.checked) false ⟨#[], #[(.slice none 0 0), (.slice none 0 0)], []⟩ 8 (by kernel_rfl) (by kernel_rfl) (by kernel_rfl) (by kernel_rfl)) ?_
  intro W base args ds gs before hval0 hW hcnd _
  have hval : ∀ (j : Nat) t v, Try.f4.params[j]? = some t → args[j]? = some v → Value.okWide Try.prog W .any base t v := hval0
  have hW' := hW
  obtain ⟨p, q, hA0, hV, rfl, hfz, hnd⟩ := hW
  have hA : DataW.TrodAll enc' Try.prog W 0 (fun _ => true) true Try.f4.params.toList args.toList ds p := hA0
  rw [Try.params4] at hA hval
  obtain ⟨v0, v1, d0, d1, p0, p1, rfl, rfl, rfl, h0, h1⟩ := trodAll_two hA
  obtain ⟨rfl, rfl⟩ := trodVars_none hV
  obtain ⟨l0, hI0, hM0, hx0⟩ := open_putsAt (P := Try.prog) Try.underlying22 Try.underlying29 (by kernel_rfl) rfl rfl (by kernel_rfl) (by kernel_rfl) (by kernel_rfl) (by kernel_rfl) (hval 0 22 v0 rfl rfl) h0
  obtain ⟨l1, hI1, hM1⟩ := open_boolsAt (P := Try.prog) Try.underlying34 Try.underlying4 (by kernel_rfl) (hval 1 34 v1 rfl rfl) h1
  clear hA0 hval0
  refine (diskFlush_true _ l0 hM0 hx0 _ l1 hM1 W hI0 hI1).mono fun e W' ⟨he, hw⟩ => ?_
  subst he
  exact ⟨_, rfl, law_post 4 Try.laidOut (by kernel_rfl) rfl rfl Try.underlying4 hW' rfl hw⟩

theorem diskFlush_holds : Rows.DiskFlushSaid :=
  OpenClaim.holds_of_wide 4 Try.f4 rfl rfl rfl rfl rfl rfl rfl ⟨rfl, rfl, rfl, rfl, rfl⟩ rfl rfl rfl rfl rfl (by kernel_rfl) Try.func4 (by kernel_rfl)
    (of_decide_eq_true (by kernel_rfl)) (by unfold Func.isWrapper; first | (rw [if_pos (by decide +kernel)]; kernel_rfl) | (rw [if_neg (by decide +kernel)]; exact ⟨rfl, rfl⟩))
    (fun os started H enc _ => diskFlush_lifted os started H enc)

end Go.Proofs.Ytappfgjomndlmaa
