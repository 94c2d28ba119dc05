/- DiskLast: for all writes and all sectors the statement returns true and leaves its arguments alone. No conditions. -/
import Derived.Test.YtappfgjomndlmaaDkWritten
import Derived.Test.YtappfgjomndlmaaOpenPuts
namespace Go.Proofs.Ytappfgjomndlmaa
open Go.ChangeShapes Go.WideShapes Go.ChangeAt Go.RowKit

/-- What was written last to a sector. -/
def lastK (l : List (Int × ByteArray)) (n : Nat) : Nat → List Int
  | 0 => secS { data := #[] }
  | k + 1 => match l[k]? with
    | some x => if pkN x.1 16 = n then secS x.2 else lastK l n k
    | none => lastK l n k
theorem lastK_len (l : List (Int × ByteArray)) (n : Nat) : ∀ k, (lastK l n k).length = 64
  | 0 => secS_len _
  | k + 1 => by
    unfold lastK
    split
    · split
      · exact secS_len _
      · exact lastK_len l n k
    · exact lastK_len l n k
theorem writeE_yes {st : Dk} (h : st.fu = -1) (n : Nat) (D : List Int) : writeE st n D = { S := st.S, N := putS st.N n D, W := st.W ++ [(n, D)], fu := -1 } := by
  unfold writeE
  rw [if_neg (by omega), h]
  rfl
theorem sec_zero (n : Nat) (hn : n < 16) : sec (List.replicate 1024 0) n = secS { data := #[] } := by
  unfold sec
  rw [List.drop_replicate, List.take_replicate, Nat.min_eq_left (by omega)]
  rfl
theorem spun_last (l : List (Int × ByteArray)) (n : Nat) (hn : n < 16) : ∀ k, (spunK l (-1) k).fu = -1 ∧ (spunK l (-1) k).N.length = 64 * 16 ∧ sec (spunK l (-1) k).N n = lastK l n k
  | 0 => ⟨rfl, by simp only [spunK, freshE, List.length_replicate], sec_zero n hn⟩
  | k + 1 => by
    obtain ⟨h1, h2, h3⟩ := spun_last l n hn k
    unfold spunK lastK
    cases hx : l[k]? with
    | none => exact ⟨h1, h2, h3⟩
    | some x =>
      simp only
      rw [if_neg (by omega)]
      unfold putOne
      rw [writeE_yes h1]
      have hp := pkN_lt x.1 16 (by omega) (by omega)
      refine ⟨rfl, putS_len h2 hp (secS_len _), ?_⟩
      by_cases he : pkN x.1 16 = n
      · rw [if_pos he, ← he]
        exact sec_put_same h2 hp (secS_len _)
      · rw [if_neg he, ← h3]
        exact sec_put_other h2 hp hn (secS_len _) (Ne.symm he)

set_option maxRecDepth 100000 in
set_option maxHeartbeats 4000000 in
theorem diskLast_raw (v : Value) (l : List (Int × ByteArray)) (n0 : Int) (w : World) (h : PutsAt w v l) (hl : l.length ≤ maxLen) (hs : ∀ x, x ∈ l → x.2.size ≤ maxLen) :
    Calls Try.prog 3 #[v, .int .i64 n0] w fun e w' => e = .returned (.bool true) ∧ Below w.heap.size w w' := by
  have H := Lib.hid h
  have HS := Lib.hid hs
  have HLM := Lib.hid hl
  clear h hs hl
  go_enter Try.func3, Try.ntmps3
  go_wp2_with fail
  refine (written_true _).mono ?_
  rintro e w1 ⟨rfl, hb1⟩
  have H1 : Hid (PutsAt w1 v l) := RowAt.below H.out hb1
  go_wp2_with fail
  refine (light_any v l _ H1.out HLM.out HS.out).mono ?_
  cases hlt : lightB l with
  | false =>
    rintro e w2 ⟨rfl, hb2⟩
    have hB2 := Below.step hb1 hb2
    clear hlt
    go_wp2
    go_ret
    exact ⟨rfl, hB2⟩
  | true =>
    rintro e w2 ⟨rfl, hb2⟩
    have hB2 := Below.step hb1 hb2
    have H2 : Hid (PutsAt w2 v l) := RowAt.below H1.out hb2
    have hl60 : l.length ≤ 60 := by unfold lightB at hlt; simp at hlt; exact hlt.1
    obtain ⟨N, HN⟩ : ∃ N, Hid (N = l.length) := ⟨_, rfl⟩
    rw [← HN.out] at hl60
    obtain ⟨p, cp, hv, hp⟩ := puts_open H2.out N HN.out
    subst hv
    have HP := Lib.hid hp
    clear hp hlt hb1 hb2
    go_wp2_with fail
    refine (pickN n0 16 _ (by omega) (by omega)).mono ?_
    rintro e w' ⟨rfl, rfl⟩
    obtain ⟨n, HNN⟩ : ∃ n, Hid (n = pkN n0 16) := ⟨_, rfl⟩
    rw [← HNN.out]
    have hn16 : n < 16 := by rw [HNN.out]; exact pkN_lt n0 16 (by omega) (by omega)
    go_wp2_with fail
    refine (sector_any { data := #[] } _).mono ?_
    rintro e w3 ⟨v3, rfl, hv3⟩
    have HB3 : Hid (BytesAt w3 v3 (lastK l n 0)) := hv3.at
    have hB3 : Below w2.heap.size w2 w3 := hv3.below
    clear hv3
    go_wp2
    go_loopw [5, 19] (fun v i wr => ∃ k : Nat, k ≤ N ∧ i = .int .i64 k ∧ Hid (BytesAt wr v (lastK l n k)) ∧ Below w2.heap.size w2 wr) (fun _ i _ => N - (intOf i).toNat)
    case atStart => exact ⟨0, Nat.zero_le _, rfl, HB3, hB3⟩
    case round =>
      obtain ⟨k, hk, rfl, HB, hB⟩ := hrel
      by_cases hlt : k < N
      · obtain ⟨g, o, rfl, hg, hc⟩ := HP.out (by omega)
        have hkl : k < l.length := by rw [← HN.out]; exact hlt
        have hck := hc k hkl
        obtain ⟨x, hx⟩ : ∃ x, Hid (x = l[k].1) := ⟨l[k].1, rfl⟩
        obtain ⟨s, hs⟩ : ∃ s, Hid (s = l[k].2) := ⟨l[k].2, rfl⟩
        rw [← hx.out, ← hs.out] at hck
        have c1 := (hB.cell (p := ⟨g, o + k * 2, none⟩) hg).trans hck.1
        have c2 := (hB.cell (p := ⟨g, o + (k * 2 + 1), none⟩) hg).trans hck.2
        rw [← Nat.add_assoc] at c2
        have hgl : g < wr.heap.size := Nat.lt_of_lt_of_le hg hB.size
        have hgn : ¬ g = wr.heap.size := by omega
        have HX : Hid (lastK l n (k + 1) = if pkN x 16 = n then secS s else lastK l n k) := by
          show _ = _
          rw [lastK, List.getElem?_eq_getElem hkl, hx.out, hs.out]
        have HC := Lib.hid hc
        clear hc hck
        have hlt2 : (k : Int) < (N : Int) := by omega
        go_wp2_with fail
        refine (pickN x 16 _ (by omega) (by omega)).mono ?_
        rintro e w' ⟨rfl, rfl⟩
        obtain ⟨m, HMM⟩ : ∃ m, Hid (m = pkN x 16) := ⟨_, rfl⟩
        rw [← HMM.out]
        rw [← HMM.out] at HX
        by_cases he : m = n
        · have HX2 : Hid (lastK l n (k + 1) = secS s) := by show _ = _; rw [HX.out, if_pos he]
          subst he
          go_wp2_with fail
          refine (sector_any s _).mono ?_
          rintro e w4 ⟨v4, rfl, hv4⟩
          have HB4 : Hid (BytesAt w4 v4 (lastK l m (k + 1))) := by rw [HX2.out]; exact hv4.at
          have hB4 : Below w2.heap.size w2 w4 := (hB.alloc hB.size _).trans (hv4.below.mono (by have := hB.size; simp; omega))
          clear hv4
          go_wp2
          go_roundw
          case rel => exact ⟨k + 1, by omega, by go_num, HB4, hB4⟩
          case measure => simp [intOf]; omega
        · have HX2 : Hid (lastK l n (k + 1) = lastK l n k) := by show _ = _; rw [HX.out, if_neg he]
          have he2 : ((m : Int) == (n : Int)) = false := by rw [beq_eq_false_iff_ne]; omega
          have HB4 : Hid (∀ o, BytesAt (wr.alloc o) u5 (lastK l n (k + 1))) := fun o => by rw [HX2.out]; exact RowAt.below HB.out ((Below.refl _ _).alloc (Nat.le_refl _) _)
          have he3 : ¬ (m : Int) = (n : Int) := by omega
          go_wp2
          go_roundw
          case rel => exact ⟨k + 1, by omega, by go_num, HB4.out _, hB.alloc hB.size _⟩
          case measure => simp [intOf]; omega
      · have HE : Hid (lastK l n k = lastK l n N) := by show _ = _; rw [show k = N by omega]
        have H5 : Hid (PutsAt wr (.slice p N cp) l) := RowAt.below H2.out hB
        go_wp2_with fail
        refine (spun_any _ l (-1) _ H5.out (by rw [← HN.out]; omega)).mono ?_
        rintro e w6 ⟨a, rfl, hO⟩
        have HE6 : Hid (sec (spunE l (-1)).N n = lastK l n N) := by
          show _ = _
          unfold spunE
          rw [if_neg (by omega), ← HN.out]
          exact (spun_last l n hn16 N).2.2
        obtain ⟨F6, hD6, _, hb6⟩ := hO
        have HB6 : Hid (BytesAt w6 u5 (lastK l n N)) := by rw [← HE.out]; exact RowAt.below HB.out hb6
        have hB6 : Below w2.heap.size w2 w6 := Below.step hB hb6
        have HD6 := Lib.hid hD6
        obtain ⟨B, HBB⟩ : ∃ B, Hid (B = bytesS (lastK l n N)) := ⟨_, rfl⟩
        have hc1 : (convert 26 9 u5).run Try.prog w6.drew = .ok (.string B) w6.drew := by
          rw [HBB.out]; exact conv_bytes (w := w6.drew) HB6.out (by rw [lastK_len]; omega)
        clear hD6 hb6
        go_wp2_with fail
        refine wp_region_noPanic ?_
        go_region_held_law (fun w' => (convert 26 9 u5).run Try.prog w' = .ok (.string B) w')
          (first
            | exact hc1
            | exact m1
            | (go_keep; done))
          (first
            | (go_at_call 13; refine (at_at HD6.out.drew n hn16).mono ?_; rintro e w7 ⟨v7, rfl, hv7⟩
               rw [HE6.out] at hv7
               have hc3 : (convert 26 9 v7).run Try.prog w7 = .ok (.string B) w7 := by rw [HBB.out]; exact conv_bytes hv7.at (by rw [lastK_len]; omega)
               have m1 : (convert 26 9 u5).run Try.prog w7 = .ok (.string B) w7 := by rw [HBB.out]; exact conv_bytes (RowAt.below (w := w6.drew) HB6.out hv7.below) (by rw [lastK_len]; omega)
               have hB7 : Below w2.heap.size w2 w7 := Below.step hB6.drew hv7.below
               clear hv7))
        all_goals
          refine NoPanic.normal ?_
          go_wp2
          go_ret
          exact ⟨rfl, Below.step hB2 hB7⟩

theorem diskLast_true (v : Value) (l : List (Int × ByteArray)) (h1 : l.length ≤ maxLen) (hx : ∀ x, x ∈ l → x.2.size ≤ maxLen) (n : Int) (w : World) (h : PutsAt w v l) :
    Calls Try.prog 3 #[v, .int .i64 n] w fun e w' => e = .returned (.bool true) ∧ Below w.heap.size w w' :=
  diskLast_raw v l n w h h1 hx

-- CLOSING

set_option maxRecDepth 100000 in
theorem diskLast_lifted (os : Os) (started : os.Started) (H : Type) (enc' : TypeId × Value → H) :
    ReturnsInHanded {} Try.checked os 3 .any (Rows.diskLastSpec.pre6 enc' Try.prog Try.f3 Rows.diskLastRow.domain false) (Rows.diskLastSpec.post enc' Try.prog Try.f3 false true false false) := by
  refine returnsInHanded_of_change (C := Try.checked) Try.own started (by kernel_rfl) Try.func3
    (ChangeSpec.witness6 (enc := enc') (C := Try.checked) false ⟨#[], #[(.slice none 0 0), (.int .i64 0)], []⟩ 8 (by kernel_rfl) (by kernel_rfl) (by kernel_rfl) (by kernel_rfl)) ?_
  intro W base args ds gs before hval0 hW hcnd _
  have hval : ∀ (j : Nat) t v, Try.f3.params[j]? = some t → args[j]? = some v → Value.okWide Try.prog W .any base t v := hval0
  have hW' := hW
  obtain ⟨p, q, hA0, hV, rfl, hfz, hnd⟩ := hW
  have hA : DataW.TrodAll enc' Try.prog W 0 (fun _ => true) true Try.f3.params.toList args.toList ds p := hA0
  rw [Try.params3] at hA hval
  obtain ⟨v0, v1, d0, d1, p0, p1, rfl, rfl, rfl, h0, h1⟩ := trodAll_two hA
  obtain ⟨rfl, rfl⟩ := trodVars_none hV
  obtain ⟨l0, hI0, hM0, hx0⟩ := open_putsAt (P := Try.prog) Try.underlying22 Try.underlying29 (by kernel_rfl) rfl rfl (by kernel_rfl) (by kernel_rfl) (by kernel_rfl) (by kernel_rfl) (hval 0 22 v0 rfl rfl) h0
  obtain ⟨n, rfl, rfl, rfl, wn⟩ := open_int Try.underlying3 (hval 1 3 v1 rfl rfl) h1
  clear hA0 hval0
  refine (diskLast_true _ l0 hM0 hx0 n W hI0).mono fun e W' ⟨he, hw⟩ => ?_
  subst he
  exact ⟨_, rfl, law_post 4 Try.laidOut (by kernel_rfl) rfl rfl Try.underlying4 hW' rfl hw⟩

theorem diskLast_holds : Rows.DiskLastSaid :=
  OpenClaim.holds_of_wide 3 Try.f3 rfl rfl rfl rfl rfl rfl rfl ⟨rfl, rfl, rfl, rfl, rfl⟩ rfl rfl rfl rfl rfl (by kernel_rfl) Try.func3 (by kernel_rfl)
    (of_decide_eq_true (by kernel_rfl)) (by unfold Func.isWrapper; first | (rw [if_pos (by decide +kernel)]; kernel_rfl) | (rw [if_neg (by decide +kernel)]; exact ⟨rfl, rfl⟩))
    (fun os started H enc _ => diskLast_lifted os started H enc)

end Go.Proofs.Ytappfgjomndlmaa
