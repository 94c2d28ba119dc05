/- DiskImage: for all writes and wherever the Flush is the statement returns true and leaves its arguments alone. No conditions. -/
import Derived.Test.YtappfgjomndlmaaDiskFlush
namespace Go.Proofs.Ytappfgjomndlmaa
open Go.ChangeShapes Go.WideShapes Go.ChangeAt Go.RowKit

theorem take_sec (l : List Int) (k : Nat) : l.take (64 * (k + 1)) = l.take (64 * k) ++ sec l k := by
  unfold sec
  rw [show 64 * (k + 1) = 64 * k + 64 by omega, List.take_add]
theorem crash_none (st : Dk) : crashE st [] = { S := st.S, N := st.S, W := [], fu := -1 } := by
  unfold crashE; rw [crashS_none]

theorem news_take {w : World} {g n : Nat} {cur : Array Value} {t : TypeId} {fr : Nat × Nat} {xs : List Value} (h : w.heap[g]? = some (.cells cur t fr)) (hc : cur.toList.take n = xs) (hl : xs.length = n) (j : Nat) (u : Value) (hu : xs[j]? = some u) : w.cell? ((⟨g, 0, none⟩ : Addr).add j) = some u := by
  have hadd : (⟨g, 0, none⟩ : Addr).add j = ⟨g, j, none⟩ := by unfold Addr.add; split <;> simp_all
  rw [hadd, cell_of_row _ _ j _ t fr h]
  have hj := (List.getElem?_eq_some_iff.1 hu).1
  rw [← hc, List.getElem?_take, if_pos (by omega)] at hu
  simpa using hu
set_option maxRecDepth 100000 in
set_option maxHeartbeats 4000000 in
theorem diskImage_raw (v : Value) (l : List (Int × ByteArray)) (n0 : Int) (w : World) (h : PutsAt w v l) (hl : l.length ≤ maxLen) (hs : ∀ x, x ∈ l → x.2.size ≤ maxLen) :
    Calls Try.prog 5 #[v, .int .i64 n0] w fun e w' => e = .returned (.bool true) ∧ Below w.heap.size w w' := by
  have H := Lib.hid h
  have HS := Lib.hid hs
  have HLM := Lib.hid hl
  clear h hs hl
  obtain ⟨i0, hi, hz0, hz1, hz2⟩ := info_parts u8Info
  have HI := Lib.hid hi
  have HZ0 := Lib.hid hz0
  have HZ1 := Lib.hid hz1
  have HZ2 := Lib.hid hz2
  clear hi hz0 hz1 hz2
  go_enter Try.func5, Try.ntmps5
  go_wp2_with fail
  refine (written_true _).mono ?_
  rintro e w1 ⟨rfl, hb1⟩
  have H1 : Hid (PutsAt w1 v l) := RowAt.below H.out hb1
  go_wp2_with fail
  refine (light_any v l _ H1.out HLM.out HS.out).mono ?_
  cases hlt : lightB l with
  | false =>
    rintro e w2 ⟨rfl, hb2⟩
    have hB2 := Below.step hb1 hb2
    clear hlt
    go_wp2
    go_ret
    exact ⟨rfl, hB2⟩
  | true =>
    rintro e w2 ⟨rfl, hb2⟩
    have hB2 := Below.step hb1 hb2
    have H2 : Hid (PutsAt w2 v l) := RowAt.below H1.out hb2
    have hl60 : l.length ≤ 60 := by unfold lightB at hlt; simp at hlt; exact hlt.1
    obtain ⟨N, HN⟩ : ∃ N, Hid (N = l.length) := ⟨_, rfl⟩
    rw [← HN.out] at hl60
    obtain ⟨p, cp, hv, _⟩ := puts_open H2.out N HN.out
    subst hv
    clear hlt hb1 hb2
    go_wp2_with fail
    refine (pickN n0 ((N : Int) + 1) _ (by omega) (by omega)).mono ?_
    rintro e w' ⟨rfl, rfl⟩
    generalize pkN n0 ((N : Int) + 1) = f
    go_wp2_with fail
    refine (spun_any _ l (f : Int) _ H2.out (by rw [← HN.out]; omega)).mono ?_
    rintro e w3 ⟨a, rfl, F1, hD1, hF1, hb3⟩
    generalize spunE l (f : Int) = st at hD1
    have HD1 := Lib.hid hD1
    have HF1 := Lib.hid hF1
    have HLS : Hid (st.S.length = 64 * 16) := hD1.lens.1
    have hB3 : Below w.heap.size w w3 := Below.step hB2 hb3
    clear hD1 hF1
    go_wp2_with fail
    refine (image_at HD1.out).mono ?_
    rintro e w4 ⟨v6, rfl, hv6⟩
    have HV6 := Lib.hid hv6
    have HD4 : Hid (DiskAt w4 (.pointer (some a)) st 16 F1) := HD1.out.below hv6.below
    have hB4 : Below w.heap.size w w4 := Below.step hB3 hv6.below
    clear hv6
    go_wp2_with fail
    refine (crash_at HD4.out _ [] (fun w' _ => nil_bools w') (by simp)).mono ?_
    rintro e w5 ⟨rfl, F5, hD5, hF5, hk5⟩
    rw [crash_none] at hD5
    have HD5 := Lib.hid hD5
    have HB5 : Hid (BytesAt w5 v6 st.S) := HV6.out.keep HD1.out.fin w5 hk5
    have hB5 : Below w.heap.size w w5 := hB4.trans (hk5.to_below (fun i hi => Nat.le_trans hB2.size (HF1.out i hi)) hB4.size)
    clear hD5 hF5 hk5
    go_wp2
    go_loopw [7, 27] (fun u i wr => ∃ k : Nat, k ≤ 16 ∧ i = .int .i64 k ∧ Hid (wr.ownsRow w5.heap.size 5 1 u (64 * k) (u8s (st.S.take (64 * k)))) ∧ Below w5.heap.size w5 wr) (fun _ i _ => 16 - (intOf i).toNat)
    case atStart => exact ⟨0, Nat.zero_le _, rfl, World.ownsRow_nil _ _ _ _, Below.refl _ _⟩
    case round =>
      obtain ⟨k, hk, rfl, HO, hB⟩ := hrel
      by_cases hlt : k < 16
      · have hlt2 : (k : Int) < 16 := by omega
        have HSL : Hid ((sec st.S k).length = 64) := sec_len (k := 16) HLS.out hlt
        go_wp2_with fail
        refine (at_at (HD5.out.below hB) k hlt).mono ?_
        rintro e w6 ⟨v7, rfl, g7, cap7, cur7, hv7, ⟨hg7, _⟩, hh7, ht7, hb7⟩
        simp only at hv7 ht7
        rw [HSL.out] at hv7 ht7
        subst hv7
        have HH7 := Lib.hid hh7
        have HT7 := Lib.hid ht7
        have HO6 : Hid (w6.ownsRow w5.heap.size 5 1 u7 (64 * k) (u8s (st.S.take (64 * k)))) := owns_below HO.out hb7
        have hB6 : Below w5.heap.size w5 w6 := Below.step hB hb7
        have hlt' := HO6.out.lt
        clear hh7 ht7 hb7
        go_wp2_with (at_builtin; refine wpList_append_own _ rfl _ _ 26 rfl w5.heap.size 5 i0 (.int .u8 0) 1 1 u8sT HI.out HZ0.out HZ1.out HZ2.out rfl (by decide) _ _ _ rfl HO6.out ⟨g7, 0, none⟩ 64 cap7 (u8s (sec st.S k)) rfl (by rw [u8s_len, HSL.out]) (fun j u hu => news_take HH7.out HT7.out (by rw [u8s_len, HSL.out]) j u hu) (u8s_one _) (by unfold maxLen; omega) (by omega) (by have := hB6.size; omega) ?_; intro v' w8 hown hgrow _)
        have HO8 : Hid (w8.ownsRow w5.heap.size 5 1 v' (64 * (k + 1)) (u8s (st.S.take (64 * (k + 1))))) := by
          rw [take_sec, u8s_append]
          exact hown
        have hB8 : Below w5.heap.size w5 w8 := Below.grown hB6 hgrow hB6.size (fun r hr => (hlt' r hr).1)
        clear hown hgrow hlt'
        go_wp2
        go_roundw
        case rel => exact ⟨k + 1, by omega, by go_num, HO8, hB8⟩
        case measure => simp [intOf]; omega
      · obtain rfl : k = 16 := by omega
        have HBu : Hid (BytesAt wr u7 st.S) := by
          have h1 := HO.out
          rw [List.take_of_length_le (by rw [HLS.out]; exact Nat.le_refl _)] at h1
          have h2 := RowAt.of_owns h1
          have h3 : 64 * 16 = st.S.length := HLS.out.symm
          rw [h3] at h2
          exact h2
        have HB6 : Hid (BytesAt wr v6 st.S) := RowAt.below HB5.out hB
        have HD6 : Hid (DiskAt wr (.pointer (some a)) { S := st.S, N := st.S, W := [], fu := -1 } 16 F5) := HD5.out.below hB
        obtain ⟨B, HBB⟩ : ∃ B, Hid (B = bytesS st.S) := ⟨_, rfl⟩
        have HSP : Hid (0 < st.S.length) := by rw [HLS.out]; exact (by omega : 0 < 64 * 16)
        have hc1 : (convert 26 9 u7).run Try.prog wr.drew = .ok (.string B) wr.drew := by rw [HBB.out]; exact conv_bytes (w := wr.drew) HBu.out HSP.out
        have hc2 : (convert 26 9 v6).run Try.prog wr.drew = .ok (.string B) wr.drew := by rw [HBB.out]; exact conv_bytes (w := wr.drew) HB6.out HSP.out
        go_wp2_with fail
        refine wp_region_noPanic ?_
        go_region_held_law (fun w' => (convert 26 9 u7).run Try.prog w' = .ok (.string B) w' ∧ (convert 26 9 v6).run Try.prog w' = .ok (.string B) w')
          (first
            | exact And.intro hc1 hc2
            | exact And.intro m1 m2
            | (go_keep; done))
          (first
            | (go_at_call 16; refine (image_at HD6.out.drew).mono ?_; rintro e w7 ⟨v7, rfl, hv7⟩
               have hc3 : (convert 26 9 v7).run Try.prog w7 = .ok (.string B) w7 := by rw [HBB.out]; exact conv_bytes hv7.at HSP.out
               have m1 : (convert 26 9 u7).run Try.prog w7 = .ok (.string B) w7 := by rw [HBB.out]; exact conv_bytes (RowAt.below (w := wr.drew) HBu.out hv7.below) HSP.out
               have m2 : (convert 26 9 v6).run Try.prog w7 = .ok (.string B) w7 := by rw [HBB.out]; exact conv_bytes (RowAt.below (w := wr.drew) HB6.out hv7.below) HSP.out
               have HD7 : Hid (DiskAt w7 (.pointer (some a)) { S := st.S, N := st.S, W := [], fu := -1 } 16 F5) := HD6.out.drew.below hv7.below
               have hB7 : Below w5.heap.size w5 w7 := Below.step hB.drew hv7.below
               clear hv7)
            | (go_at_call 14; refine (waiting_at HD7.out).mono ?_; rintro e w8 ⟨rfl, rfl⟩))
        all_goals
          refine NoPanic.normal ?_
          go_wp2
          go_ret
          exact ⟨rfl, Below.step hB5 hB7⟩

theorem diskImage_true (v : Value) (l : List (Int × ByteArray)) (h1 : l.length ≤ maxLen) (hx : ∀ x, x ∈ l → x.2.size ≤ maxLen) (n : Int) (w : World) (h : PutsAt w v l) :
    Calls Try.prog 5 #[v, .int .i64 n] w fun e w' => e = .returned (.bool true) ∧ Below w.heap.size w w' :=
  diskImage_raw v l n w h h1 hx

-- CLOSING

set_option maxRecDepth 100000 in
theorem diskImage_lifted (os : Os) (started : os.Started) (H : Type) (enc' : TypeId × Value → H) :
    ReturnsInHanded {} Try.checked os 5 .any (Rows.diskImageSpec.pre6 enc' Try.prog Try.f5 Rows.diskImageRow.domain false) (Rows.diskImageSpec.post enc' Try.prog Try.f5 false true false false) := by
  refine returnsInHanded_of_change (C := Try.checked) Try.own started (by kernel_rfl) Try.func5
    (ChangeSpec.witness6 (enc := enc') (C := Try.checked) false ⟨#[], #[(.slice none 0 0), (.int .i64 0)], []⟩ 8 (by kernel_rfl) (by kernel_rfl) (by kernel_rfl) (by kernel_rfl)) ?_
  intro W base args ds gs before hval0 hW hcnd _
  have hval : ∀ (j : Nat) t v, Try.f5.params[j]? = some t → args[j]? = some v → Value.okWide Try.prog W .any base t v := hval0
  have hW' := hW
  obtain ⟨p, q, hA0, hV, rfl, hfz, hnd⟩ := hW
  have hA : DataW.TrodAll enc' Try.prog W 0 (fun _ => true) true Try.f5.params.toList args.toList ds p := hA0
  rw [Try.params5] at hA hval
  obtain ⟨v0, v1, d0, d1, p0, p1, rfl, rfl, rfl, h0, h1⟩ := trodAll_two hA
  obtain ⟨rfl, rfl⟩ := trodVars_none hV
  obtain ⟨l0, hI0, hM0, hx0⟩ := open_putsAt (P := Try.prog) Try.underlying22 Try.underlying29 (by kernel_rfl) rfl rfl (by kernel_rfl) (by kernel_rfl) (by kernel_rfl) (by kernel_rfl) (hval 0 22 v0 rfl rfl) h0
  obtain ⟨n, rfl, rfl, rfl, wn⟩ := open_int Try.underlying3 (hval 1 3 v1 rfl rfl) h1
  clear hA0 hval0
  refine (diskImage_true _ l0 hM0 hx0 n W hI0).mono fun e W' ⟨he, hw⟩ => ?_
  subst he
  exact ⟨_, rfl, law_post 4 Try.laidOut (by kernel_rfl) rfl rfl Try.underlying4 hW' rfl hw⟩

theorem diskImage_holds : Rows.DiskImageSaid :=
  OpenClaim.holds_of_wide 5 Try.f5 rfl rfl rfl rfl rfl rfl rfl ⟨rfl, rfl, rfl, rfl, rfl⟩ rfl rfl rfl rfl rfl (by kernel_rfl) Try.func5 (by kernel_rfl)
    (of_decide_eq_true (by kernel_rfl)) (by unfold Func.isWrapper; first | (rw [if_pos (by decide +kernel)]; kernel_rfl) | (rw [if_neg (by decide +kernel)]; exact ⟨rfl, rfl⟩))
    (fun os started H enc _ => diskImage_lifted os started H enc)

end Go.Proofs.Ytappfgjomndlmaa
