/- BufferSync: behind a Sync the disk has what was put, lasting, and nothing is dirty: the statement in full, for all inputs, no condition. -/
import Derived.Test.YthkcnihmfeilgaaBuffered
import Derived.Test.YthkcnihmfeilgaaBufSync
import Derived.Test.YthkcnihmfeilgaaOpenUses
import Derived.Test.YthkcnihmfeilgaaOpenInts
import Derived.Test.YthkcnihmfeilgaaLawEnd
import Derived.ChangeShapes
import Derived.Deep.RegionHeldLaw
namespace Go.Proofs.Ythkcnihmfeilgaa
open Go.ChangeShapes Go.WideShapes Go.ChangeAt Go.RowKit

theorem some60 {l : List (Int × ByteArray × Bool)} (h : someB l = true) : l.length ≤ 60 := by
  unfold someB at h
  simp at h
  exact h.1
/-- The disk of a cache was turned. -/
theorem CacheAt.turned {w w' : World} {c d : Value} {slots : Nat} {M : List Ab} {st st' : Dk} {k : Nat} {A F : Nat → Prop} (h : CacheAt w c d slots M st k A F) (hd : Did d st' k F w w') : ∃ F', CacheAt w' c d slots M st' k A F' ∧ (∀ i, F' i → F i ∨ w.heap.size ≤ i) ∧ Keeps F w w' := by
  obtain ⟨E, he, gc, lv, hc, h1, h2, h3⟩ := h
  obtain ⟨F', f1, f2, f3⟩ := hd
  refine ⟨F', ⟨E, he, gc, lv, hc, h1.keeps f3 h3, f1, fun i hi hf => ?_⟩, f2, f3⟩
  rcases f2 i hf with h | h
  · exact h3 i hi h
  · exact absurd (h1.fin i hi) (Nat.not_lt.2 h)
theorem CacheAt.disk {w : World} {c d : Value} {slots : Nat} {M : List Ab} {st : Dk} {k : Nat} {A F : Nat → Prop} (h : CacheAt w c d slots M st k A F) : DiskAt w d st k F := by
  obtain ⟨E, he, gc, lv, hc, h1, h2, h3⟩ := h
  exact h2
/-- A cache made since w0, all of which is on its disk. -/
def ClnAt (w0 : World) (c d : Value) (slots : Nat) (st : Dk) (w : World) : Prop := ∃ M A F, CacheAt w c d slots M st 16 A F ∧ Cln M st ∧ (∀ i, A i → w0.heap.size ≤ i) ∧ (∀ i, F i → w0.heap.size ≤ i) ∧ Below w0.heap.size w0 w
theorem ClnAt.below {w0 w w' : World} {c d : Value} {slots : Nat} {st : Dk} (h : ClnAt w0 c d slots st w) (hb : Below w.heap.size w w') : ClnAt w0 c d slots st w' := by
  obtain ⟨M, A, F, h1, h2, h3, h4, h5⟩ := h
  exact ⟨M, A, F, h1.below hb, h2, h3, h4, Below.step h5 hb⟩

set_option maxRecDepth 100000 in
set_option maxHeartbeats 4000000 in
theorem bufferSync_raw (slots : Int) (v : Value) (l : List (Int × ByteArray × Bool)) (w : World) (h : UsesAt w v l) (hl : l.length ≤ maxLen) (hs : ∀ x, x ∈ l → x.2.1.size ≤ maxLen) :
    Calls Try.prog 10 #[.int .i64 slots, v] w fun e w' => e = .returned (.bool true) ∧ Below w.heap.size w w' := by
  obtain ⟨N, HN⟩ : ∃ N, Hid (N = l.length) := ⟨_, rfl⟩
  obtain ⟨p, cp, hv, hp⟩ := uses_open h N HN.out
  subst hv
  have H := Lib.hid h
  have HL := Lib.hid hl
  have HS := Lib.hid hs
  clear h hp hl hs
  go_enter Try.func10, Try.ntmps10
  go_wp2_with fail
  refine (buffered_true _).mono ?_
  rintro e w1 ⟨rfl, hb1⟩
  go_wp2_with fail
  refine (some_any _ l _ (RowAt.below H.out hb1) HL.out HS.out).mono ?_
  obtain ⟨sb, HSB⟩ : ∃ sb, Hid (someB l = sb) := ⟨_, rfl⟩
  rw [HSB.out]
  rintro e w2 ⟨rfl, hb2⟩
  have hB2 := Below.step hb1 hb2
  clear hb1 hb2
  cases sb with
  | false =>
    go_wp2
    go_ret
    exact ⟨rfl, hB2⟩
  | true =>
    have hN60 : N ≤ 60 := by rw [HN.out]; exact some60 HSB.out
    go_wp2_with fail
    refine (pickN slots 32 _ (by omega) (by omega)).mono ?_
    obtain ⟨sl, HSL⟩ : ∃ sl, Hid (pkN slots 32 = sl) := ⟨_, rfl⟩
    have hsl : sl < 32 := by rw [← HSL.out]; exact pkN_lt slots 32 (by omega) (by omega)
    rw [HSL.out]
    rintro e w' ⟨rfl, rfl⟩
    go_wp2_with fail
    refine (used_any _ l (1 + sl) (1 + (sl : Int)) (by omega) (by omega) (by omega) _ (RowAt.below H.out hB2) (by rw [← HN.out]; omega)).mono ?_
    rintro e w6 ⟨gc, a, rfl, hown⟩
    obtain ⟨A, F, hC, hA, hF, hB6⟩ := hown
    have hW : (foldU (1 + sl) l).2.W.length < 900000 := by
      have := foldU_W (1 + sl) l l.length
      rw [List.take_length] at this
      rw [← HN.out] at this
      omega
    have hinv : Inv (foldU (1 + sl) l).1 (foldU (1 + sl) l).2 := by
      have := (fold_inv (1 + sl) l l.length).1
      rw [List.take_length] at this
      exact this
    generalize foldU (1 + sl) l = S at *
    obtain ⟨M, st⟩ := S
    have HI := Lib.hid hinv
    have HSY := Lib.hid (sync_any hC hinv.nd hW)
    have HA := Lib.hid hA
    have HF := Lib.hid hF
    have HB6 := Lib.hid hB6
    clear hC hA hF hB6 hinv hW
    go_wp2_with fail
    refine HSY.out.mono ?_
    rintro e w7 ⟨rfl, hcd⟩
    obtain ⟨A7, F7, hC7, hA7, hF7, hB7⟩ := OwnC.did HA.out HF.out HB6.out hcd
    have HC7 := Lib.hid hC7
    have HA7 := Lib.hid hA7
    have HF7 := Lib.hid hF7
    have HB7 := Lib.hid hB7
    clear hcd hC7 hA7 hF7 hB7
    go_wp2_with fail
    refine (crash_at HC7.out.disk _ [] (fun w' _ => nil_bools w') (by simp)).mono ?_
    rintro e w8 ⟨rfl, hd8⟩
    have HCL8 : Hid (ClnAt w2 (.pointer (some ⟨gc, 0, none⟩)) (.pointer (some a)) (1 + sl) (syncD M st) w8) := by
      obtain ⟨F8, h1, h2, h3⟩ := HC7.out.turned hd8
      have hz := HB7.out.size
      refine ⟨_, A7, F8, h1, sync_cln HI.out, HA7.out, fun i hi => ?_, HB7.out.trans (h3.to_below HF7.out hz)⟩
      rcases h2 i hi with h | h
      · exact HF7.out i h
      · exact Nat.le_trans hz h
    have HWD : Hid ((syncD M st).W.length < 1000000) := by show _ < _; rw [(syncD_eq HI.out).2.2]; simp
    clear hd8
    generalize syncD M st = sd at *
    go_wp2
    go_loopw [29] (fun i wr => ∃ k : Nat, k ≤ 16 ∧ i = .int .i64 k ∧ Hid (ClnAt w2 (.pointer (some ⟨gc, 0, none⟩)) (.pointer (some a)) (1 + sl) sd wr)) (fun i _ => 16 - (intOf i).toNat)
    case atStart => exact ⟨0, Nat.zero_le _, rfl, HCL8⟩
    case round =>
      obtain ⟨k, hk, rfl, HC⟩ := hrel
      obtain ⟨M', A', F', hC, hcl, hA, hF, hB⟩ := HC.out
      have HCL := Lib.hid hcl
      have HA' := Lib.hid hA
      have HF' := Lib.hid hF
      have HB' := Lib.hid hB
      have HC' := Lib.hid hC
      have hzr := hB.size
      clear hcl hA hF hB hC
      by_cases hlt : k < 16
      · have HGET := Lib.hid (get_any HC'.out k hlt HWD.out)
        have HSEE := Lib.hid (see_cln HCL.out k hlt)
        have HG2 := Lib.hid (get_cln (1 + sl) HCL.out k hlt)
        go_wp2_with fail
        refine HGET.out.mono ?_
        rintro e w9 ⟨v9, A9, F9, rfl, hc9, ha9, hf9, hk9, g9, cap9, cur9, rfl, hlen9, hg9, hn9, hm9, hh9, ht9⟩
        have HCL9 : Hid (ClnAt w2 (.pointer (some ⟨gc, 0, none⟩)) (.pointer (some a)) (1 + sl) sd w9) := by
          rw [HG2.out.2] at hc9
          refine ⟨_, A9, F9, hc9, HG2.out.1, fun i hi => ?_, fun i hi => ?_, hk9.own HA'.out HF'.out HB'.out⟩
          · rcases ha9 i hi with h | h
            · exact HA'.out i h
            · exact Nat.le_trans hzr h
          · rcases hf9 i hi with h | h
            · exact HF'.out i h
            · exact Nat.le_trans hzr h
        rw [HSEE.out] at hlen9 ht9
        obtain ⟨B, HBB⟩ : ∃ B, Hid (B = bytesS (sec sd.N k)) := ⟨_, rfl⟩
        have HSC : Hid (0 < (sec sd.N k).length) := by rw [hlen9]; exact (by omega : 0 < 64)
        have HBY : Hid (BytesAt w9 (.slice (some ⟨g9, 0, none⟩) 64 cap9) (sec sd.N k)) := bytes_of_row hlen9 hh9 ht9
        have HDK : Hid (∃ F, DiskAt w9 (.pointer (some a)) sd 16 F) := by
          obtain ⟨M1, A1, F1, h1, _⟩ := HCL9.out
          exact ⟨F1, h1.disk⟩
        clear hc9 ha9 hf9 hk9 hlen9 hg9 hn9 hm9 hh9 ht9
        have hc1 : (convert 26 9 (.slice (some ⟨g9, 0, none⟩) 64 cap9)).run Try.prog w9.drew = .ok (.string B) w9.drew := by
          rw [HBB.out]
          exact conv_bytes (w := w9.drew) HBY.out HSC.out
        obtain ⟨F9, hdk9⟩ := HDK.out
        have HDK9 := Lib.hid hdk9
        clear hdk9
        go_wp2_with fail
        refine wp_region_noPanic ?_
        go_region_held_law (fun w' => (convert 26 9 (.slice (some ⟨g9, 0, none⟩) 64 cap9)).run Try.prog w' = .ok (.string B) w')
          (first
            | exact hc1
            | exact m1
            | (go_keep; done))
          (first
            | (go_at_call 43; refine (at_at HDK9.out.drew k hlt).mono ?_; rintro e w10 ⟨v10, rfl, hv10⟩
               have hc3 : (convert 26 9 v10).run Try.prog w10 = .ok (.string B) w10 := by rw [HBB.out]; exact conv_bytes hv10.at HSC.out
               have m1 : (convert 26 9 (.slice (some ⟨g9, 0, none⟩) 64 cap9)).run Try.prog w10 = .ok (.string B) w10 := by rw [HBB.out]; exact conv_bytes (RowAt.below (w := w9.drew) HBY.out hv10.below) HSC.out
               have HCL10 : Hid (ClnAt w2 (.pointer (some ⟨gc, 0, none⟩)) (.pointer (some a)) (1 + sl) sd w10) := (HCL9.out.below (Below.refl _ _).drew).below hv10.below
               clear hv10))
        all_goals
          refine NoPanic.normal ?_
          go_wp2
          go_roundw
          case rel => exact ⟨k + 1, by omega, by go_num, HCL10⟩
          case measure => simp [intOf]; omega
      · obtain rfl : k = 16 := by omega
        have HDI := Lib.hid (dirty_any HC'.out)
        rw [cln_dirty HCL.out] at HDI
        go_wp2_with fail
        refine HDI.out.mono ?_
        rintro e w9 ⟨v9, rfl, ho9, hb9⟩
        obtain ⟨q9, cp9, hv9, _⟩ := owns_slice ho9
        have hl0 : (srtI []).length = 0 := (srtI_perm []).length_eq
        rw [hl0] at hv9
        subst hv9
        have hB9 : Below w.heap.size w w9 := Below.step (hB2.trans (HB'.out.mono hB2.size)) hb9
        clear ho9 hb9 hl0
        go_wp2
        go_ret
        exact ⟨rfl, hB9⟩

-- CLOSING

set_option maxRecDepth 100000 in
theorem bufferSync_lifted (os : Os) (started : os.Started) (H : Type) (enc' : TypeId × Value → H) :
    ReturnsInHanded {} Try.checked os 10 .any (Rows.bufferSyncSpec.pre6 enc' Try.prog Try.f10 Rows.bufferSyncRow.domain false) (Rows.bufferSyncSpec.post enc' Try.prog Try.f10 false true false false) := by
  refine returnsInHanded_of_change (C := Try.checked) Try.own started (by kernel_rfl) Try.func10
    (ChangeSpec.witness6 (enc := enc') (C := Try.checked) false ⟨#[], #[.int .i64 0, (.slice none 0 0)], []⟩ 8 (by kernel_rfl) (by kernel_rfl) (by kernel_rfl) (by kernel_rfl)) ?_
  intro W base args ds gs before hval0 hW hcnd _
  have hval : ∀ (j : Nat) t v, Try.f10.params[j]? = some t → args[j]? = some v → Value.okWide Try.prog W .any base t v := hval0
  have hW' := hW
  obtain ⟨p, q, hA0, hV, rfl, hfz, hnd⟩ := hW
  have hA : DataW.TrodAll enc' Try.prog W 0 (fun _ => true) true Try.f10.params.toList args.toList ds p := hA0
  rw [Try.params10] at hA hval
  obtain ⟨v0, v1, d0, d1, p0, p1, rfl, rfl, rfl, h0, h1⟩ := trodAll_two hA
  obtain ⟨rfl, rfl⟩ := trodVars_none hV
  obtain ⟨sl, rfl, rfl, rfl, wsl⟩ := open_int Try.underlying3 (hval 0 3 v0 rfl rfl) h0
  obtain ⟨l, hIl, hMl, hxl⟩ := open_usesAt (P := Try.prog) Try.underlying22 Try.underlying29 (by kernel_rfl) rfl rfl rfl (by kernel_rfl) (by kernel_rfl) (by kernel_rfl) (by kernel_rfl) (by kernel_rfl) (by kernel_rfl) (hval 1 22 v1 rfl rfl) h1
  clear hA0 hval0
  refine (bufferSync_raw sl v1 l W hIl hMl hxl).mono fun e W' ⟨he, hw⟩ => ?_
  subst he
  exact ⟨_, rfl, law_post 4 Try.laidOut (by kernel_rfl) rfl rfl Try.underlying4 hW' rfl hw⟩

theorem bufferSync_holds : Rows.BufferSyncSaid :=
  OpenClaim.holds_of_wide 10 Try.f10 rfl rfl rfl rfl rfl rfl rfl ⟨rfl, rfl, rfl, rfl, rfl⟩ rfl rfl rfl rfl rfl (by kernel_rfl) Try.func10 (by kernel_rfl)
    (of_decide_eq_true (by kernel_rfl)) (by unfold Func.isWrapper; first | (rw [if_pos (by decide +kernel)]; kernel_rfl) | (rw [if_neg (by decide +kernel)]; exact ⟨rfl, rfl⟩))
    (fun os started H enc _ => bufferSync_lifted os started H enc)

end Go.Proofs.Ythkcnihmfeilgaa
