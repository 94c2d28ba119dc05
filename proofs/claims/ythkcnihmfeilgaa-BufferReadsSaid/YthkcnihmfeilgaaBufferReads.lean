/- BufferReads: what was put last is got: the statement in full, for all inputs, no condition. -/
import Derived.Test.YthkcnihmfeilgaaBuffered
import Derived.Test.YthkcnihmfeilgaaBufPl
import Derived.Test.YthkcnihmfeilgaaOpenUses
import Derived.Test.YthkcnihmfeilgaaOpenInts
import Derived.Test.YthkcnihmfeilgaaLawEnd
import Derived.ChangeShapes
namespace Go.Proofs.Ythkcnihmfeilgaa
open Go.ChangeShapes Go.WideShapes Go.ChangeAt Go.RowKit

theorem lastU_len (l : List (Int × ByteArray × Bool)) (n : Nat) : (lastU l n).length = 64 := by
  unfold lastU
  have key : ∀ (l : List (Int × ByteArray × Bool)) (r : List Int), r.length = 64 → (l.foldl (fun r x => if x.2.2 && pkN x.1 16 == n then secS x.2.1 else r) r).length = 64 := by
    intro l
    induction l with
    | nil => intro r hr; exact hr
    | cons x l ih =>
      intro r hr
      rw [List.foldl_cons]
      refine ih _ ?_
      split
      · exact secS_len _
      · exact hr
  exact key l _ (secS_len _)
theorem someB_iff {l : List (Int × ByteArray × Bool)} (h : someB l = true) : l.length ≤ 60 := by
  unfold someB at h
  simp at h
  exact h.1

set_option maxRecDepth 100000 in
set_option maxHeartbeats 4000000 in
theorem bufferReads_raw (slots : Int) (v : Value) (l : List (Int × ByteArray × Bool)) (n : Int) (w : World) (h : UsesAt w v l) (hl : l.length ≤ maxLen) (hs : ∀ x, x ∈ l → x.2.1.size ≤ maxLen) :
    Calls Try.prog 3 #[.int .i64 slots, v, .int .i64 n] w fun e w' => e = .returned (.bool true) ∧ Below w.heap.size w w' := by
  obtain ⟨N, HN⟩ : ∃ N, Hid (N = l.length) := ⟨_, rfl⟩
  obtain ⟨p, cp, hv, hp⟩ := uses_open h N HN.out
  subst hv
  have H := Lib.hid h
  have HP := Lib.hid hp
  have HL := Lib.hid hl
  have HS := Lib.hid hs
  clear h hp hl hs
  go_enter Try.func3, Try.ntmps3
  go_wp2_with fail
  refine (buffered_true _).mono ?_
  rintro e w1 ⟨rfl, hb1⟩
  go_wp2_with fail
  refine (some_any _ l _ (RowAt.below H.out hb1) HL.out HS.out).mono ?_
  obtain ⟨sb, HSB⟩ : ∃ sb, Hid (someB l = sb) := ⟨_, rfl⟩
  rw [HSB.out]
  rintro e w2 ⟨rfl, hb2⟩
  have hB2 := Below.step hb1 hb2
  clear hb1 hb2
  cases sb with
  | false =>
    go_wp2
    go_ret
    exact ⟨rfl, hB2⟩
  | true =>
    have hN60 : N ≤ 60 := by rw [HN.out]; exact someB_iff HSB.out
    go_wp2_with fail
    refine (pickN n 16 _ (by omega) (by omega)).mono ?_
    obtain ⟨m, HM⟩ : ∃ m, Hid (pkN n 16 = m) := ⟨_, rfl⟩
    have hm16 : m < 16 := by rw [← HM.out]; exact pkN_lt n 16 (by omega) (by omega)
    rw [HM.out]
    rintro e w' ⟨rfl, rfl⟩
    go_wp2_with fail
    refine (sector_any { data := #[] } _).mono ?_
    rintro e w3 ⟨v3, rfl, hv3⟩
    have hB3 := Below.step hB2 hv3.below
    have HV3 : Hid (BytesAt w3 v3 (lastU (l.take 0) m)) := hv3.at
    obtain ⟨g3, cap3, _, hv3e, _⟩ := hv3
    rw [secS_len] at hv3e
    subst hv3e
    clear hB2
    go_wp2
    go_loopw [7, 24] (fun o i wr => ∃ k : Nat, k ≤ N ∧ i = .int .i64 k ∧ (∃ g cap, o = .slice (some ⟨g, 0, none⟩) 64 cap) ∧ Hid (BytesAt wr o (lastU (l.take k) m)) ∧ Below w.heap.size w wr) (fun _ i _ => N - (intOf i).toNat)
    case atStart => exact ⟨0, Nat.zero_le _, rfl, ⟨_, _, rfl⟩, HV3, hB3⟩
    case round =>
      obtain ⟨k, hk, rfl, ⟨gv, cv, rfl⟩, HV, HB⟩ := hrel
      by_cases hlt : k < N
      · obtain ⟨g, o, rfl, hg, hc⟩ := HP.out (by omega)
        have hkl : k < l.length := by rw [← HN.out]; exact hlt
        have hck := hc k hkl
        obtain ⟨x, hx⟩ : ∃ x, Hid (x = l[k].1) := ⟨l[k].1, rfl⟩
        obtain ⟨s, hs⟩ : ∃ s, Hid (s = l[k].2.1) := ⟨l[k].2.1, rfl⟩
        obtain ⟨pb, hpb⟩ : ∃ s, Hid (s = l[k].2.2) := ⟨l[k].2.2, rfl⟩
        rw [← hx.out, ← hs.out, ← hpb.out] at hck
        have c1 := (HB.cell (p := ⟨g, o + k * 3, none⟩) hg).trans hck.1
        have c2 := (HB.cell (p := ⟨g, o + (k * 3 + 1), none⟩) hg).trans hck.2.1
        have c3 := (HB.cell (p := ⟨g, o + (k * 3 + 2), none⟩) hg).trans hck.2.2
        rw [← Nat.add_assoc] at c2 c3
        have hgl : g < wr.heap.size := Nat.lt_of_lt_of_le hg HB.size
        have hgn : ¬ g = wr.heap.size := by omega
        have HLS : Hid (lastU (l.take (k + 1)) m = if pb && pkN x 16 == m then secS s else lastU (l.take k) m) := by
          show _ = _
          rw [← List.take_append_getElem hkl, lastU_snoc, hx.out, hs.out, hpb.out]
        have HC := Lib.hid hc
        have hba : Below w.heap.size w (wr.alloc (.cells #[.int .i64 x, .string s, .bool pb] 29)) := HB.alloc HB.size _
        have HBA := Lib.hid hba
        have HVA : Hid (BytesAt (wr.alloc (.cells #[.int .i64 x, .string s, .bool pb] 29)) (.slice (some ⟨gv, 0, none⟩) 64 cv) (lastU (l.take k) m)) := RowAt.below HV.out ((Below.refl _ _).alloc (Nat.le_refl _) _)
        have hlt2 : (k : Int) < (N : Int) := by omega
        clear hc hck hba
        obtain ⟨q, HQ⟩ : ∃ q, Hid (pkN x 16 = q) := ⟨_, rfl⟩
        rw [HQ.out] at HLS
        have HPK : Hid (∀ W : World, Calls Try.prog 14 #[.int .i64 x, .int .i64 16] W fun e w' => e = .returned (.int .i64 (q : Int)) ∧ W = w') := fun W => by
          have := pickN x 16 W (by omega) (by omega)
          rw [HQ.out] at this
          exact this
        by_cases hput : pb = true ∧ q = m
        · obtain ⟨rfl, rfl⟩ := hput
          have HL2 : Hid (lastU (l.take (k + 1)) q = secS s) := by show _ = _; rw [HLS.out, if_pos (by simp)]
          go_wp2_with fail
          refine (HPK.out _).mono ?_
          rintro e w' ⟨rfl, rfl⟩
          go_wp2_with fail
          refine (sector_any s _).mono ?_
          rintro e w5 ⟨v5, rfl, hv5⟩
          have hB5 := Below.step HBA.out hv5.below
          have HV5 : Hid (BytesAt w5 v5 (lastU (l.take (k + 1)) q)) := by show BytesAt _ _ _; rw [HL2.out]; exact hv5.at
          obtain ⟨g5, cap5, _, hv5e, _⟩ := hv5
          rw [secS_len] at hv5e
          subst hv5e
          go_wp2
          go_roundw
          case rel => exact ⟨k + 1, by omega, by go_num, ⟨_, _, rfl⟩, HV5, hB5⟩
          case measure => simp [intOf]; omega
        · have HL2 : Hid (BytesAt (wr.alloc (.cells #[.int .i64 x, .string s, .bool pb] 29)) (.slice (some ⟨gv, 0, none⟩) 64 cv) (lastU (l.take (k + 1)) m)) := by
            show BytesAt _ _ _
            rw [HLS.out, if_neg (by simp; intro h; simpa using fun e => hput ⟨h, e⟩)]
            exact HVA.out
          cases pb with
          | false =>
            go_wp2
            go_roundw
            case rel => exact ⟨k + 1, by omega, by go_num, ⟨_, _, rfl⟩, HL2, HBA.out⟩
            case measure => simp [intOf]; omega
          | true =>
            have hqm : ¬ q = m := fun e => hput ⟨rfl, e⟩
            have hqm2 : ((q : Int) == (m : Int)) = false := by rw [beq_eq_false_iff_ne]; omega
            clear hput
            go_wp2_with fail
            refine (HPK.out _).mono ?_
            rintro e w' ⟨rfl, rfl⟩
            go_wp2
            go_roundw
            case rel => exact ⟨k + 1, by omega, by go_num, ⟨_, _, rfl⟩, HL2, HBA.out⟩
            case measure => simp [intOf]; omega
      · have hkn : k = N := by omega
        have HE : Hid (l.take k = l) := List.take_of_length_le (by rw [hkn, HN.out]; exact Nat.le_refl _)
        rw [HE.out] at HV
        clear hkn
        go_wp2_with fail
        refine (pickN slots 32 _ (by omega) (by omega)).mono ?_
        obtain ⟨sl, HSL⟩ : ∃ sl, Hid (pkN slots 32 = sl) := ⟨_, rfl⟩
        have hsl : sl < 32 := by rw [← HSL.out]; exact pkN_lt slots 32 (by omega) (by omega)
        rw [HSL.out]
        rintro e w' ⟨rfl, rfl⟩
        go_wp2_with fail
        refine (used_any _ l (1 + sl) (1 + (sl : Int)) (by omega) (by omega) (by omega) _ (RowAt.below H.out HB) (by rw [← HN.out]; omega)).mono ?_
        rintro e w6 ⟨gc, a, rfl, hown⟩
        obtain ⟨A, F, hC, hA, hF, hB6⟩ := hown
        have hW : (foldU (1 + sl) l).2.W.length < 1000000 := by
          have := foldU_W (1 + sl) l l.length
          rw [List.take_length] at this
          rw [← HN.out] at this
          omega
        have hview : view (foldU (1 + sl) l).1 (foldU (1 + sl) l).2 m = lastU l m := by
          have := (fold_inv (1 + sl) l l.length).2 m hm16
          rw [List.take_length] at this
          exact this
        generalize foldU (1 + sl) l = S at *
        have HGET := Lib.hid (get_any hC m hm16 hW)
        have HA := Lib.hid hA
        have HF := Lib.hid hF
        have HVW := Lib.hid hview
        have hz := HB.size
        have hBw : Below w.heap.size w w6 := HB.trans (hB6.mono hz)
        have HB6 := Lib.hid hB6
        clear hC hA hF hview
        go_wp2_with fail
        refine HGET.out.mono ?_
        rintro e w7 ⟨v7, A7, F7, rfl, _, _, _, hk7, g7, cap7, cur7, rfl, hlen7, _, _, _, hh7, ht7⟩
        have hB7 : Below wr.heap.size wr w7 := hk7.own HA.out HF.out HB6.out
        obtain ⟨B, HBB⟩ : ∃ B, Hid (B = bytesS (lastU l m)) := ⟨_, rfl⟩
        have hlm := lastU_len l m
        have hc1 : (convert 26 9 (.slice (some ⟨g7, 0, none⟩) 64 cap7)).run Try.prog w7 = .ok (.string B) w7 := by
          rw [HBB.out, ← HVW.out]
          exact conv_bytes (bytes_of_row hlen7 hh7 ht7) (by show 0 < (seeA S.1 S.2 m).1.length; omega)
        have hc2 : (convert 26 9 (.slice (some ⟨gv, 0, none⟩) 64 cv)).run Try.prog w7 = .ok (.string B) w7 := by
          rw [HBB.out]
          exact conv_bytes (RowAt.below HV.out hB7) (by omega)
        have hBF : Below w.heap.size w w7 := HB.trans (hB7.mono hz)
        clear hk7 hh7 ht7 hlen7 hB7 hlm
        go_wp2
        go_ret
        exact ⟨rfl, hBF⟩

-- CLOSING

set_option maxRecDepth 100000 in
theorem bufferReads_lifted (os : Os) (started : os.Started) (H : Type) (enc' : TypeId × Value → H) :
    ReturnsInHanded {} Try.checked os 3 .any (Rows.bufferReadsSpec.pre6 enc' Try.prog Try.f3 Rows.bufferReadsRow.domain false) (Rows.bufferReadsSpec.post enc' Try.prog Try.f3 false true false false) := by
  refine returnsInHanded_of_change (C := Try.checked) Try.own started (by kernel_rfl) Try.func3
    (ChangeSpec.witness6 (enc := enc') (C := Try.checked) false ⟨#[], #[.int .i64 0, (.slice none 0 0), .int .i64 0], []⟩ 8 (by kernel_rfl) (by kernel_rfl) (by kernel_rfl) (by kernel_rfl)) ?_
  intro W base args ds gs before hval0 hW hcnd _
  have hval : ∀ (j : Nat) t v, Try.f3.params[j]? = some t → args[j]? = some v → Value.okWide Try.prog W .any base t v := hval0
  have hW' := hW
  obtain ⟨p, q, hA0, hV, rfl, hfz, hnd⟩ := hW
  have hA : DataW.TrodAll enc' Try.prog W 0 (fun _ => true) true Try.f3.params.toList args.toList ds p := hA0
  rw [Try.params3] at hA hval
  obtain ⟨v0, v1, v2, d0, d1, d2, p0, p1, p2, rfl, rfl, rfl, h0, h1, h2⟩ := trodAll_three hA
  obtain ⟨rfl, rfl⟩ := trodVars_none hV
  obtain ⟨sl, rfl, rfl, rfl, wsl⟩ := open_int Try.underlying3 (hval 0 3 v0 rfl rfl) h0
  obtain ⟨l, hIl, hMl, hxl⟩ := open_usesAt (P := Try.prog) Try.underlying22 Try.underlying29 (by kernel_rfl) rfl rfl rfl (by kernel_rfl) (by kernel_rfl) (by kernel_rfl) (by kernel_rfl) (by kernel_rfl) (by kernel_rfl) (hval 1 22 v1 rfl rfl) h1
  obtain ⟨n, rfl, rfl, rfl, wn⟩ := open_int Try.underlying3 (hval 2 3 v2 rfl rfl) h2
  clear hA0 hval0
  refine (bufferReads_raw sl v1 l n W hIl hMl hxl).mono fun e W' ⟨he, hw⟩ => ?_
  subst he
  exact ⟨_, rfl, law_post 4 Try.laidOut (by kernel_rfl) rfl rfl Try.underlying4 hW' rfl hw⟩

theorem bufferReads_holds : Rows.BufferReadsSaid :=
  OpenClaim.holds_of_wide 3 Try.f3 rfl rfl rfl rfl rfl rfl rfl ⟨rfl, rfl, rfl, rfl, rfl⟩ rfl rfl rfl rfl rfl (by kernel_rfl) Try.func3 (by kernel_rfl)
    (of_decide_eq_true (by kernel_rfl)) (by unfold Func.isWrapper; first | (rw [if_pos (by decide +kernel)]; kernel_rfl) | (rw [if_neg (by decide +kernel)]; exact ⟨rfl, rfl⟩))
    (fun os started H enc _ => bufferReads_lifted os started H enc)

end Go.Proofs.Ythkcnihmfeilgaa
