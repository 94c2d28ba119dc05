/- DirBack, walked. -/
import Derived.Test.YtheiaebmemcbhaaDoorDirPutsLaw
import Derived.Test.YtheiaebmemcbhaaDoorHeldStep
import Derived.Deep.RegionHeldLaw
import Derived.Deep.RegionHeld3
import Derived.Deep.DeepCutAuto
import Derived.Deep.CutBlock
namespace Go.Proofs.YtheiaebmemcbhaaDoor
open Go.RowKit

set_option maxRecDepth 100000 in
set_option maxHeartbeats 8000000 in
theorem back_law (v : Value) (l : List En) (rv : Value) (R : List Int) (w : World) (h : EntsIn w v l) (hs : ∀ x, x ∈ l → x.1.size ≤ maxLen) (hR : BytesIn w rv R) (hRB : ByteL R) (_ : R.length ≤ maxLen) :
    Calls Tryd.prog 6 #[v, rv] w fun e w' => e = .returned (.bool true) ∧ Below w.heap.size w w' := by
  obtain ⟨N, HN⟩ : ∃ N, Hid (N = l.length) := ⟨_, rfl⟩
  obtain ⟨p, cp, rfl, hp⟩ := ents_open h.1 N HN.out
  obtain ⟨K, HK⟩ : ∃ K, Hid (R.length = K) := ⟨_, rfl⟩
  obtain ⟨pr, cr, rfl⟩ := bytes_open hR.1 K HK.out
  have HIN := Lib.hid h
  have HS := Lib.hid hs
  have HRI := Lib.hid hR
  have HRB := Lib.hid hRB
  clear h hs hp hR hRB
  go_enter Tryd.func6, Tryd.ntmps6
  go_wp2_with fail
  refine (laid_true _).mono ?_
  rintro e w1 ⟨rfl, hb1⟩
  have HB1 := Lib.hid hb1
  clear hb1
  obtain ⟨eb, Heb⟩ : ∃ b, Hid (entB l = b) := ⟨_, rfl⟩
  have hent := entries_any _ l w1 (HIN.out.below HB1.out).1 HS.out
  rw [Heb.out] at hent
  have HENT := Lib.hid hent
  clear hent
  go_wp2_with fail
  refine HENT.out.mono ?_
  rintro e w2 ⟨rfl, hb2⟩
  have HB2 : Hid (Below w.heap.size w w2) := Below.step HB1.out hb2
  clear hb2
  cases eb with
  | false =>
    go_wp2
    go_ret
    exact ⟨rfl, HB2.out⟩
  | true =>
  have h40 : N ≤ 40 := by
    have := Heb.out
    unfold entB at this
    rw [Bool.and_eq_true, decide_eq_true_eq] at this
    rw [HN.out]; exact this.1
  by_cases h600 : 600 < K
  · have h600i : (600 : Int) < (K : Int) := by omega
    go_wp2
    go_ret
    exact ⟨rfl, HB2.out⟩
  have h600i : ¬ (600 : Int) < (K : Int) := by omega
  have HLI := Lib.hid (list_any (.slice pr K cr) R w2 (HRI.out.below HB2.out) HRB.out (by rw [HK.out]; omega))
  go_wp2_with fail
  refine HLI.out.mono ?_
  intro e w3 hres
  obtain ⟨xv, r, he, hfacts, hb3⟩ : ∃ xv r, e = .returned (.tuple #[xv, .int .i64 r]) ∧ Hid ((r = 0 ∧ listOk R = true ∧ w3.ownsRow w2.heap.size 33 2 xv (outD R).length (ents (outD R))) ∨ (r = 3 ∧ xv = .slice none 0 0)) ∧ Below w2.heap.size w2 w3 := by
    rcases hres with ⟨h1, u, he, hu, hb⟩ | ⟨h1, he, hb⟩
    · exact ⟨u, 0, he, Or.inl ⟨rfl, h1, hu⟩, hb⟩
    · exact ⟨_, 3, he, Or.inr ⟨rfl, rfl⟩, hb⟩
  subst he
  have HB3 : Hid (Below w.heap.size w w3) := Below.step HB2.out hb3
  clear hres hb3
  go_upto_if 30 with fail
  go_cut [5] (fun s5 wx => Hid (Below w.heap.size w wx))
  case first =>
    rcases hfacts.out with ⟨rfl, hok, hown⟩ | ⟨rfl, rfl⟩
    · obtain ⟨h5, h6, h7, h8⟩ := (listOk_iff R).1 hok
      have HL := Lib.hid (lay_ok xv (outD R) w3 ⟨RowAt.of_owns hown, own_cap hown⟩ h7)
      have H8 := Lib.hid h8
      clear hok hown h5 h6 h7 h8 hfacts
      go_wp2_with fail
      refine HL.out.mono ?_
      rintro e w4 ⟨u, rfl, hu, hb4⟩
      have HB4 : Hid (Below w.heap.size w w4) := Below.step HB3.out hb4
      rw [H8.out] at hu
      have heq := equalBytes_dec u (.slice pr K cr) R R w4 hu.1 (HRI.out.below HB4.out).1 rfl (by rw [HK.out]; omega)
      have hee : eqB R R = true := by unfold eqB; simp
      rw [hee] at heq
      have HEQ := Lib.hid heq
      clear hu hb4 heq hee
      go_wp2_with fail
      refine HEQ.out.mono ?_
      rintro e w5 ⟨rfl, hb5⟩
      have HB5 : Hid (Below w.heap.size w w5) := Below.step HB4.out hb5
      clear hb5
      go_wp2
      go_meet
      exact HB5
    · go_wp2
      go_meet
      exact HB3
  case rest =>
    have HBC := hcut
    clear hcut hfacts HLI HB3
    by_cases hr : rightD l = 0
    case neg =>
      obtain ⟨r, Hr⟩ : ∃ r, Hid (rightD l = r) := ⟨_, rfl⟩
      have hr0 := hr
      rw [Hr.out] at hr0
      have HL := Lib.hid (lay_bad _ l wc (HIN.out.below HBC.out) (by rw [← HN.out]; omega) r Hr.out hr0)
      have b1 : (r == 0) = false := by rw [beq_eq_false_iff_ne]; exact hr0
      have b3 : (r != 0) = true := by simp [bne, b1]
      clear hr
      go_wp2_with fail
      refine HL.out.mono ?_
      rintro e w4 ⟨rfl, hb4⟩
      have HB4 : Hid (Below w.heap.size w w4) := Below.step HBC.out hb4
      have hrt := right_any _ l w4 (HIN.out.below HB4.out).1 HIN.out.2 (by rw [← HN.out]; omega)
      rw [Hr.out] at hrt
      have HRT := Lib.hid hrt
      clear hrt hb4
      go_wp2_with fail
      refine HRT.out.mono ?_
      rintro e w5 ⟨rfl, hb5⟩
      have HB5 : Hid (Below w.heap.size w w5) := Below.step HB4.out hb5
      clear hb5
      go_wp2
      go_ret
      exact ⟨rfl, HB5.out⟩
    case pos =>
    have HL := Lib.hid (lay_ok _ l wc (HIN.out.below HBC.out) hr)
    have HR := Lib.hid hr
    have hlen := layD_len hr
    rw [← HN.out] at hlen
    obtain ⟨M, HM⟩ : ∃ M, Hid (16 * N = M) := ⟨_, rfl⟩
    rw [HM.out] at hlen
    have HLEN := Lib.hid hlen
    clear hr hlen
    go_wp2_with fail
    refine HL.out.mono ?_
    rintro e w4 ⟨v4, rfl, hv4, hb4⟩
    have HB4 : Hid (Below w.heap.size w w4) := Below.step HBC.out hb4
    obtain ⟨p4, c4, rfl⟩ := bytes_open hv4.1 M HLEN.out
    have HLI := Lib.hid (list_any (.slice p4 M c4) (layD l) w4 hv4 (byteL_lay HR.out) (by rw [HLEN.out]; have := HM.out; omega))
    clear hv4 hb4
    go_wp2_with fail
    refine HLI.out.mono ?_
    intro e w5 hres
    obtain ⟨_, ov, rfl, hov, hb5⟩ | ⟨hbad, _⟩ := hres
    case inr => rw [list_lay HR.out] at hbad; cases hbad
    case inl =>
    have HB5 : Hid (Below w.heap.size w w5) := Below.step HB4.out hb5
    have hol : (outD (layD l)).length = N := by rw [(outD_perm HR.out).length_eq, HN.out]
    obtain ⟨T, HT⟩ : ∃ T, Hid (outD (layD l) = T) := ⟨_, rfl⟩
    have hTr : Rising T := by rw [← HT.out]; exact (list_rising (list_lay HR.out)).1
    have hTp : T.Perm l := by rw [← HT.out]; exact outD_perm HR.out
    rw [HT.out] at hol hov
    have hei : EntsAt w5 ov T := RowAt.of_owns hov
    obtain ⟨q, c, rfl, hq⟩ := ents_open hei N hol.symm
    have HQ := Lib.hid hq
    have HTR := Lib.hid hTr
    have HTP := Lib.hid hTp
    have HTL := Lib.hid hol
    clear hov hb5 hol hTr hTp hei hq
    go_wp2
    go_loopw [74] (fun s wr => ∃ k : Nat, k ≤ N ∧ s = .int .i64 (k : Int) ∧ Hid (Below w.heap.size w wr) ∧ Hid (Below w5.heap.size w5 wr)) (fun s _ => N - (intOf s).toNat)
    case atStart => exact ⟨0, Nat.zero_le _, rfl, HB5.out, Below.refl _ _⟩
    case round =>
      obtain ⟨k, hk, rfl, HB, HBB⟩ := hrel
      by_cases hlt : k < N
      · obtain ⟨g, o, rfl, hg, hc⟩ := HQ.out (by omega)
        have hkT : k < T.length := by rw [HTL.out]; exact hlt
        obtain ⟨x1, Hx1⟩ : ∃ y, Hid (T[k].1 = y) := ⟨T[k].1, rfl⟩
        obtain ⟨x2, Hx2⟩ : ∃ y, Hid (T[k].2 = y) := ⟨T[k].2, rfl⟩
        have hck := hc k hkT
        rw [Hx1.out, Hx2.out] at hck
        have d1 : wr.cell? ⟨g, o + k * 2, none⟩ = some (.string x1) := (HBB.out.cell (p := ⟨g, o + k * 2, none⟩) hg).trans hck.1
        have d2 : wr.cell? ⟨g, o + (k * 2 + 1), none⟩ = some (.int .i64 x2) := (HBB.out.cell (p := ⟨g, o + (k * 2 + 1), none⟩) hg).trans hck.2
        have d3 := d2
        rw [← Nat.add_assoc] at d3
        have hltT : (k : Int) < (N : Int) := by omega
        have hmem : (x1, x2) ∈ l := HTP.out.mem_iff.1 (by rw [← Hx1.out, ← Hx2.out]; exact List.getElem_mem hkT)
        have hcon := contains_any (.slice p N cp) l (x1, x2) wr.drew (HIN.out.below HB.out).1 (by rw [← HN.out]; omega) (by rw [← HN.out]; omega)
        have hany : (l.any fun y => eqE (x1, x2) y) = true := by
          rw [List.any_eq_true]
          exact ⟨(x1, x2), hmem, (eqE_iff _ _).2 rfl⟩
        rw [hany] at hcon
        have HCON := Lib.hid hcon
        have hgr : g < wr.heap.size := Nat.lt_of_lt_of_le hg HBB.out.size
        by_cases hk0 : k = 0
        · subst hk0
          clear hcon hany hmem hck hc
          rw [Nat.zero_mul, Nat.add_zero] at d1
          rw [Nat.zero_mul, Nat.zero_add] at d2
          have d3 := d2
          go_wp2
          refine wp_region_noPanic ?_
          refine wp_region_held_drew (S := fun w' => w'.cell? ⟨g, o, none⟩ = some (.string x1) ∧ w'.cell? ⟨g, o + 1, none⟩ = some (.int .i64 x2)) (by kernel_rfl) (And.intro d1 d3) (fun hHeld => ?_)
          refine held_run (i := 0) (v := ?_) (some 77) rfl rfl (by kernel_rfl) (by kernel_rfl) (by kernel_rfl) (by rfl) (fun _ _ _ h => h) hHeld ?_ ?_
          rotate_left
          · intro wS hSw; obtain ⟨hS1, hS2⟩ := hSw; go_simp; try with_reducible rfl
          try simp only [Act.put, List.setIfInBounds_toArray, List.set_cons_zero, List.set_cons_succ]
          refine held_run (i := 1) (v := ?_) (some 78) rfl rfl (by kernel_rfl) (by kernel_rfl) (by kernel_rfl) (by rfl) (fun _ _ _ h => h) hHeld ?_ ?_
          rotate_left
          · intro wS hSw; obtain ⟨hS1, hS2⟩ := hSw; go_simp; try with_reducible rfl
          try simp only [Act.put, List.setIfInBounds_toArray, List.set_cons_zero, List.set_cons_succ]
          refine held_run (i := 2) (v := ?_) (some 79) rfl rfl (by kernel_rfl) (by kernel_rfl) (by kernel_rfl) (by rfl) (fun _ _ _ h => h) hHeld ?_ ?_
          rotate_left
          · intro wS hSw; obtain ⟨hS1, hS2⟩ := hSw; go_simp; try with_reducible rfl
          try simp only [Act.put, List.setIfInBounds_toArray, List.set_cons_zero, List.set_cons_succ]
          refine held_skip (i := 3) (some 80) rfl rfl (by kernel_rfl) (by kernel_rfl) (by kernel_rfl) (by rfl) (fun _ _ _ h => h) hHeld ?_
          try simp only [Act.put, List.setIfInBounds_toArray, List.set_cons_zero, List.set_cons_succ]
          refine held_skip (i := 4) (some 81) rfl rfl (by kernel_rfl) (by kernel_rfl) (by kernel_rfl) (by rfl) (fun _ _ _ h => h) hHeld ?_
          try simp only [Act.put, List.setIfInBounds_toArray, List.set_cons_zero, List.set_cons_succ]
          refine held_skip (i := 5) (some 82) rfl rfl (by kernel_rfl) (by kernel_rfl) (by kernel_rfl) (by rfl) (fun _ _ _ h => h) hHeld ?_
          try simp only [Act.put, List.setIfInBounds_toArray, List.set_cons_zero, List.set_cons_succ]
          refine held_skip (i := 6) (some 83) rfl rfl (by kernel_rfl) (by kernel_rfl) (by kernel_rfl) (by rfl) (fun _ _ _ h => h) hHeld ?_
          try simp only [Act.put, List.setIfInBounds_toArray, List.set_cons_zero, List.set_cons_succ]
          refine held_skip (i := 7) (some 84) rfl rfl (by kernel_rfl) (by kernel_rfl) (by kernel_rfl) (by rfl) (fun _ _ _ h => h) hHeld ?_
          try simp only [Act.put, List.setIfInBounds_toArray, List.set_cons_zero, List.set_cons_succ]
          refine held_skip (i := 8) (some 85) rfl rfl (by kernel_rfl) (by kernel_rfl) (by kernel_rfl) (by rfl) (fun _ _ _ h => h) hHeld ?_
          try simp only [Act.put, List.setIfInBounds_toArray, List.set_cons_zero, List.set_cons_succ]
          refine held_skip (i := 9) (some 86) rfl rfl (by kernel_rfl) (by kernel_rfl) (by kernel_rfl) (by rfl) (fun _ _ _ h => h) hHeld ?_
          try simp only [Act.put, List.setIfInBounds_toArray, List.set_cons_zero, List.set_cons_succ]
          refine held_skip (i := 10) (some 87) rfl rfl (by kernel_rfl) (by kernel_rfl) (by kernel_rfl) (by rfl) (fun _ _ _ h => h) hHeld ?_
          try simp only [Act.put, List.setIfInBounds_toArray, List.set_cons_zero, List.set_cons_succ]
          refine held_skip (i := 11) (some 88) rfl rfl (by kernel_rfl) (by kernel_rfl) (by kernel_rfl) (by rfl) (fun _ _ _ h => h) hHeld ?_
          try simp only [Act.put, List.setIfInBounds_toArray, List.set_cons_zero, List.set_cons_succ]
          refine held_skip (i := 12) (some 89) rfl rfl (by kernel_rfl) (by kernel_rfl) (by kernel_rfl) (by rfl) (fun _ _ _ h => h) hHeld ?_
          try simp only [Act.put, List.setIfInBounds_toArray, List.set_cons_zero, List.set_cons_succ]
          refine held_skip (i := 13) (some 90) rfl rfl (by kernel_rfl) (by kernel_rfl) (by kernel_rfl) (by rfl) (fun _ _ _ h => h) hHeld ?_
          try simp only [Act.put, List.setIfInBounds_toArray, List.set_cons_zero, List.set_cons_succ]
          refine held_skip (i := 14) (some 91) rfl rfl (by kernel_rfl) (by kernel_rfl) (by kernel_rfl) (by rfl) (fun _ _ _ h => h) hHeld ?_
          try simp only [Act.put, List.setIfInBounds_toArray, List.set_cons_zero, List.set_cons_succ]
          refine held_run (i := 15) (v := ?_) (some 92) rfl rfl (by kernel_rfl) (by kernel_rfl) (by kernel_rfl) (by rfl) (fun _ _ _ h => h) hHeld ?_ ?_
          rotate_left
          · intro wS hSw; obtain ⟨hS1, hS2⟩ := hSw; go_simp; try with_reducible rfl
          try simp only [Act.put, List.setIfInBounds_toArray, List.set_cons_zero, List.set_cons_succ]
          refine held_run (i := 16) (v := ?_) (some 93) rfl rfl (by kernel_rfl) (by kernel_rfl) (by kernel_rfl) (by rfl) (fun _ _ _ h => h) hHeld ?_ ?_
          rotate_left
          · intro wS hSw; obtain ⟨hS1, hS2⟩ := hSw; go_simp; try with_reducible rfl
          try simp only [Act.put, List.setIfInBounds_toArray, List.set_cons_zero, List.set_cons_succ]
          refine held_run (i := 17) (v := ?_) (some 94) rfl rfl (by kernel_rfl) (by kernel_rfl) (by kernel_rfl) (by rfl) (fun _ _ _ h => h) hHeld ?_ ?_
          rotate_left
          · intro wS hSw; obtain ⟨hS1, hS2⟩ := hSw; go_simp; try with_reducible rfl
          try simp only [Act.put, List.setIfInBounds_toArray, List.set_cons_zero, List.set_cons_succ]
          refine held_run (i := 18) (v := ?_) (some 95) rfl rfl (by kernel_rfl) (by kernel_rfl) (by kernel_rfl) (by rfl) (fun _ _ _ h => h) hHeld ?_ ?_
          rotate_left
          · intro wS hSw; obtain ⟨hS1, hS2⟩ := hSw; go_simp; try with_reducible rfl
          try simp only [Act.put, List.setIfInBounds_toArray, List.set_cons_zero, List.set_cons_succ]
          refine held_run (i := 19) (v := ?_) (some 96) rfl rfl (by kernel_rfl) (by kernel_rfl) (by kernel_rfl) (by rfl) (fun _ _ _ h => h) hHeld ?_ ?_
          rotate_left
          · intro wS hSw; obtain ⟨hS1, hS2⟩ := hSw; go_simp; try with_reducible rfl
          try simp only [Act.put, List.setIfInBounds_toArray, List.set_cons_zero, List.set_cons_succ]
          refine held_run (i := 20) (v := ?_) (some 97) rfl rfl (by kernel_rfl) (by kernel_rfl) (by kernel_rfl) (by rfl) (fun _ _ _ h => h) hHeld ?_ ?_
          rotate_left
          · intro wS hSw; obtain ⟨hS1, hS2⟩ := hSw; go_simp; try with_reducible rfl
          try simp only [Act.put, List.setIfInBounds_toArray, List.set_cons_zero, List.set_cons_succ]
          refine held_run (i := 21) (v := ?_) (some 98) rfl rfl (by kernel_rfl) (by kernel_rfl) (by kernel_rfl) (by rfl) (fun _ _ _ h => h) hHeld ?_ ?_
          rotate_left
          · intro wS hSw; obtain ⟨hS1, hS2⟩ := hSw; go_simp; try with_reducible rfl
          try simp only [Act.put, List.setIfInBounds_toArray, List.set_cons_zero, List.set_cons_succ]
          refine held_call (i := 22) rfl (by kernel_rfl) (by rfl) (fun K hK => ?_)
          go_simp
          go_wp2_with (go_at_call 22; (with_reducible refine HCON.out.mono ?_); rintro e w6 ⟨rfl, hb6⟩)
          have s1 : w6.cell? ⟨g, o, none⟩ = some (.string x1) := (hb6.cell (p := ⟨g, o, none⟩) hgr).trans d1
          have s2 : w6.cell? ⟨g, o + 1, none⟩ = some (.int .i64 x2) := (hb6.cell (p := ⟨g, o + 1, none⟩) hgr).trans d3
          have HB6 : Hid (Below w.heap.size w w6) := Below.step HB.out.drew hb6
          have HBB6 : Hid (Below w5.heap.size w5 w6) := Below.step HBB.out.drew hb6
          clear hb6
          refine hK.out _ _ (And.intro s1 s2) (fun hHeld => ?_)
          clear hK K
          try simp only [Act.put, List.setIfInBounds_toArray, List.set_cons_zero, List.set_cons_succ]
          refine held_run (i := 23) (v := ?_) (some 100) rfl rfl (by kernel_rfl) (by kernel_rfl) (by kernel_rfl) (by rfl) (fun _ _ _ h => h) hHeld ?_ ?_
          rotate_left
          · intro wS hSw; obtain ⟨hS1, hS2⟩ := hSw; go_simp; try with_reducible rfl
          try simp only [Act.put, List.setIfInBounds_toArray, List.set_cons_zero, List.set_cons_succ]
          refine held_run (i := 24) (v := ?_) (some 101) rfl rfl (by kernel_rfl) (by kernel_rfl) (by kernel_rfl) (by rfl) (fun _ _ _ h => h) hHeld ?_ ?_
          rotate_left
          · intro wS hSw; obtain ⟨hS1, hS2⟩ := hSw; go_simp; try with_reducible rfl
          try simp only [Act.put, List.setIfInBounds_toArray, List.set_cons_zero, List.set_cons_succ]
          refine wpAnyH_done (by kernel_rfl) ?_ _
          refine NoPanic.normal ?_
          go_wp2
          go_roundw
          case rel => exact ⟨1, by omega, by go_num, HB6, HBB6⟩
          case measure => simp [intOf]; omega
        · obtain ⟨j, Hj⟩ : ∃ j, Hid (j + 1 = k) := ⟨k - 1, by show _ = _; omega⟩
          have hjT : j < T.length := by have := Hj.out; omega
          obtain ⟨y1, Hy1⟩ : ∃ y, Hid (T[j].1 = y) := ⟨T[j].1, rfl⟩
          have hcj := (hc j hjT).1
          rw [Hy1.out] at hcj
          have d4 : wr.cell? ⟨g, o + j * 2, none⟩ = some (.string y1) := (HBB.out.cell (p := ⟨g, o + j * 2, none⟩) hg).trans hcj
          have wj : IntKind.i64.wrap ((k : Int) - 1) = (j : Int) := by rw [IntWalk.i64_in _ (by omega)]; have := Hj.out; omega
          have hrise : Op.bytesLess y1.toList x1.toList = true := by
            have h1 := HTR.out
            unfold Rising at h1
            rw [List.pairwise_iff_getElem] at h1
            have h2 := h1 j k hjT hkT (by have := Hj.out; omega)
            rw [Hx1.out, Hy1.out] at h2
            exact h2
          have hkpos : decide ((0 : Int) < (k : Int)) = true := decide_eq_true (by omega)
          have hkpos2 : decide (0 < k) = true := decide_eq_true (by omega)
          have hjN : (j : Int) < (N : Int) := by have := Hj.out; omega
          clear hcon hany hmem hck hc hcj
          go_wp2
          refine wp_region_noPanic ?_
          go_region_held_law (fun w' => w'.cell? ⟨g, o + k * 2, none⟩ = some (.string x1) ∧ w'.cell? ⟨g, o + k * 2 + 1, none⟩ = some (.int .i64 x2) ∧ w'.cell? ⟨g, o + j * 2, none⟩ = some (.string y1))
            (first | exact ⟨d1, d3, d4⟩ | exact ⟨m1, m2, m3⟩ | (go_keep; done))
            (first
              | (go_at_call 22; refine HCON.out.mono ?_; rintro e w6 ⟨rfl, hb6⟩
                 have m1 : w6.cell? ⟨g, o + k * 2, none⟩ = some (.string x1) := (hb6.cell (p := ⟨g, o + k * 2, none⟩) hgr).trans d1
                 have m2 : w6.cell? ⟨g, o + k * 2 + 1, none⟩ = some (.int .i64 x2) := (hb6.cell (p := ⟨g, o + k * 2 + 1, none⟩) hgr).trans d3
                 have m3 : w6.cell? ⟨g, o + j * 2, none⟩ = some (.string y1) := (hb6.cell (p := ⟨g, o + j * 2, none⟩) hgr).trans d4
                 have HB6 : Hid (Below w.heap.size w w6) := Below.step HB.out.drew hb6
                 have HBB6 : Hid (Below w5.heap.size w5 w6) := Below.step HBB.out.drew hb6
                 clear hb6))
          all_goals
            refine NoPanic.normal ?_
            go_wp2
            go_roundw
            case rel => exact ⟨k + 1, by omega, by go_num, HB6, HBB6⟩
            case measure => simp [intOf]; omega
      · have w16 : IntKind.i64.wrap (16 * (N : Int)) = (M : Int) := by rw [IntWalk.i64_in _ (by omega)]; have := HM.out; omega
        have hltT : ¬ (k : Int) < (N : Int) := by omega
        go_wp2
        go_ret
        exact ⟨rfl, HB.out⟩
end Go.Proofs.YtheiaebmemcbhaaDoor
