/- JournalAgain: walked. -/
import Derived.Test.YtdcplaonafmbjaaJMay
namespace Go.Proofs.Ytdcplaonafmbjaa
open Go.RowKit

def nulB : ByteArray := { data := #[0] }
theorem again_facts (l : PutL) (A B : List Bool) (f : Nat) :
    let st1 := runE (freshE 20) (opsC 0 (wrsF l))
    let C1 := crashS st1.S st1.W A
    let st2 := openE (tick (liveE C1) f)
    let C2 := crashS st2.S st2.W B
    (ByteL C1 ∧ GoodL (openL C1)) ∧ (ByteL C2 ∧ GoodL (openL C2)) ∧ dat (openE (liveE C2)).N = aftF zD (wrsF l) := by
  intro st1 C1 st2 C2
  have hw := wrs_good l
  have hR := (any_commit fresh_rest hw.1 hw.2 ⟨by omega, by omega⟩).2
  have hm1 : Mix st1 C1 := hR.ok.crash A
  have hg1 := hR.good C1 hm1
  obtain ⟨hm2, hg2, hr2⟩ := again_plain hm1 hg1.1 f B
  refine ⟨⟨hm1.b, hg1.1⟩, ⟨hm2.b, hg2⟩, ?_⟩
  rw [open_dat (st := st2) hm2 hg2]
  exact hr2.trans hg1.2

set_option maxRecDepth 100000 in
set_option maxHeartbeats 8000000 in
theorem again_law (HREP : Hid (∀ W, Calls Try.prog 32 #[.string nulB, .int .i64 640] W fun e w' => e = .returned (.string (bytesS zD)) ∧ Below W.heap.size W w')) (v : Value) (l : PutL) (av bv : Value) (A B : List Bool) (f0 : Int) (w : World) (h : PutsAt w v l) (hl : l.length ≤ maxLen) (hs : ∀ x, x ∈ l → x.2.size ≤ maxLen) (hA : BoolsAt w av A) (hAl : A.length ≤ maxLen) (hB : BoolsAt w bv B) (hBl : B.length ≤ maxLen) :
    Calls Try.prog 6 #[v, av, bv, .int .i64 f0] w fun e w' => e = .returned (.bool true) ∧ Below w.heap.size w w' := by
  obtain ⟨pa, ca, rfl, _⟩ : ∃ p c, av = .slice p A.length c ∧ True := by
    obtain ⟨_, ⟨h0, a0, c0, rfl⟩ | ⟨g, o, cap, rfl, hc⟩⟩ := id hA
    · exact ⟨a0, c0, by rw [h0], trivial⟩
    · exact ⟨_, cap, rfl, trivial⟩
  obtain ⟨pb, cb, rfl, _⟩ : ∃ p c, bv = .slice p B.length c ∧ True := by
    obtain ⟨_, ⟨h0, a0, c0, rfl⟩ | ⟨g, o, cap, rfl, hc⟩⟩ := id hB
    · exact ⟨a0, c0, by rw [h0], trivial⟩
    · exact ⟨_, cap, rfl, trivial⟩
  obtain ⟨NA, HNA⟩ : ∃ N, Hid (A.length = N) := ⟨_, rfl⟩
  obtain ⟨NB, HNB⟩ : ∃ N, Hid (B.length = N) := ⟨_, rfl⟩
  obtain ⟨N, HN⟩ : ∃ N, Hid (N = l.length) := ⟨_, rfl⟩
  obtain ⟨p, cp, rfl, _⟩ := puts_open h N HN.out
  have H := Lib.hid h
  have HSS := Lib.hid hs
  have HLM := Lib.hid hl
  unfold maxLen at hAl hBl
  rw [HNA.out] at hA hAl ⊢
  rw [HNB.out] at hB hBl ⊢
  have HA := Lib.hid hA
  have HB := Lib.hid hB
  obtain ⟨sm, hsum⟩ : ∃ s, IntKind.i64.wrap ((NA : Int) + (NB : Int)) = s := ⟨_, rfl⟩
  clear h hs hl hA hB
  go_enter Try.func6, Try.ntmps6
  go_wp2_with fail
  refine (told_true _).mono ?_
  rintro e w0 ⟨rfl, hb0⟩
  go_wp2_with fail
  refine (written_true _).mono ?_
  rintro e w1 ⟨rfl, hb1'⟩
  have hb1 := Below.step hb0 hb1'
  have H1 : Hid (PutsAt w1 (.slice p N cp) l) := RowAt.below H.out hb1
  clear hb0 hb1'
  go_wp2_with fail
  refine (light_any _ l _ H1.out HLM.out HSS.out).mono ?_
  cases hlt : lightB l with
  | false =>
    rintro e w2 ⟨rfl, hb2⟩
    have hB2 := Below.step hb1 hb2
    clear hlt
    go_wp2
    go_ret
    exact ⟨rfl, hB2⟩
  | true =>
    rintro e w2 ⟨rfl, hb2⟩
    have hB2 := Below.step hb1 hb2
    have H2 : Hid (PutsAt w2 (.slice p N cp) l) := RowAt.below H1.out hb2
    have HA2 : Hid (BoolsAt w2 (.slice pa NA ca) A) := RowAt.below HA.out hB2
    have HB2 : Hid (BoolsAt w2 (.slice pb NB cb) B) := RowAt.below HB.out hB2
    have hl60 : l.length ≤ 60 := by unfold lightB at hlt; simp at hlt; exact hlt.1
    rw [← HN.out] at hl60
    clear hb1 hb2 hlt
    by_cases h201 : 200 < sm
    · go_wp2
      go_ret
      exact ⟨rfl, hB2⟩
    go_wp2_with fail
    refine (new_any 20 20 rfl (by omega) (by omega) _).mono ?_
    rintro e w3 ⟨d, F0, rfl, hd, hF0, hb0, _⟩
    obtain ⟨a, rfl⟩ := hd.ptr
    have HO := Lib.hid (open_law hd hF0 hb0 fresh_dkw.bn (by rw [zeros_open]; exact goodL_nil) (by simp [freshE]))
    rw [open_fresh, seq_fresh] at HO
    clear hd hF0 hb0
    go_wp2_with fail
    refine HO.out.mono ?_
    rintro e w4 ⟨gl, rfl, hj, _, _⟩
    obtain ⟨F4, hj4⟩ := hj.named
    have HJ4 := Lib.hid hj4
    have HPW : Hid (∀ W, Below w2.heap.size w2 W → Calls Try.prog 13 #[.slice p N cp] W (WrsRes l W)) := fun W hW => writes_any _ l W (RowAt.below H2.out hW) (by rw [← HN.out]; omega)
    have hb4 : Below w2.heap.size w2 w4 := hj4.b
    clear hj hj4 HO
    go_wp2_with fail
    refine (HPW.out _ hb4).mono ?_
    rintro e w5 ⟨v5, E5, rfl, hJ5, hE5, hb5⟩
    have HCM := Lib.hid (commit_lawF HJ4.out hb5 hJ5 (by rw [hE5]; exact (wrs_good l).1) ⟨by omega, by omega⟩ (by simp [freshE]))
    rw [hE5] at HCM
    clear hJ5 hE5 hb5
    go_wp2_with fail
    refine HCM.out.mono ?_
    rintro e w6 ⟨rfl, F6, hj6, hF6, hk6⟩
    have HJ6 := Lib.hid hj6
    clear hj6 hF6 hk6 HCM HJ4
    go_wp2_with fail
    refine (HREP.out _).mono ?_
    rintro e w7 ⟨rfl, hb7⟩
    have HJ7 := Lib.hid (HJ6.out.below hb7)
    clear hb7 HJ6
    go_wp2_with fail
    refine (HPW.out _ HJ7.out.b).mono ?_
    rintro e w8 ⟨v8, E8, rfl, hJ8, hE8, hb8⟩
    have hgd := (wrs_good l).1
    rw [← hE8] at hgd
    have haf := after_any v8 E8 zD w8 hJ8.at (by unfold zD; exact List.length_replicate) (fun x hx => hgd.n (jab x) (List.mem_map.2 ⟨x, hx, rfl⟩)) (by have := hgd.l; rw [List.length_map] at this; omega)
    obtain ⟨want, Hw⟩ : ∃ s, Hid (bytesS (aftF zD (wrsF l)) = s) := ⟨_, rfl⟩
    rw [hE8, Hw.out] at haf
    have HAF := Lib.hid haf
    have HJ8 := Lib.hid (HJ7.out.below hb8)
    obtain ⟨z, Hz⟩ : ∃ s, Hid (bytesS zD = s) := ⟨_, rfl⟩
    rw [Hz.out] at HAF ⊢
    clear haf hgd hJ8 hE8 hb8 HJ7 HPW
    go_wp2_with fail
    refine HAF.out.mono ?_
    rintro e w9 ⟨rfl, hb9⟩
    have HJ9 := Lib.hid (HJ8.out.below hb9)
    clear hb9 HAF HJ8
    obtain ⟨f, Hf⟩ : ∃ q, Hid (pkN f0 8 = q) := ⟨_, rfl⟩
    have hf8 : f < 8 := by rw [← Hf.out]; exact pkN_lt f0 8 (by omega) (by omega)
    have HPK : Hid (∀ W : World, Calls Try.prog 23 #[.int .i64 f0, .int .i64 8] W fun e w' => e = .returned (.int .i64 (f : Int)) ∧ W = w') := fun W => by
      have := pickN f0 8 W (by omega) (by omega)
      rw [Hf.out] at this
      exact this
    have hfc := again_facts l A B f
    dsimp only at hfc
    have HFC := Lib.hid hfc
    clear hfc
    go_wp2_with fail
    refine (jatF_crash HJ9.out _ A HA2.out (by rw [HNA.out]; omega)).mono ?_
    rintro e w10 ⟨rfl, F10, hj10, _, _⟩
    have HJ10 : Hid (JAtF w2 a gl (liveE (crashS (runE (freshE 20) (opsC 0 (wrsF l))).S (runE (freshE 20) (opsC 0 (wrsF l))).W A)) (sqC 0 (wrsF l)) F10 w10) := hj10
    clear hj10 HJ9
    go_wp2_with fail
    refine (HPK.out _).mono ?_
    rintro e w' ⟨rfl, rfl⟩
    go_wp2_with fail
    refine (jatF_fuse HJ10.out (f : Int) (by omega) (by omega)).mono ?_
    rintro e w11 ⟨rfl, F11, hj11, _, _⟩
    obtain ⟨C1, HC1⟩ : ∃ C, Hid (crashS (runE (freshE 20) (opsC 0 (wrsF l))).S (runE (freshE 20) (opsC 0 (wrsF l))).W A = C) := ⟨_, rfl⟩
    rw [HC1.out] at hj11 HFC
    have e11 : ({ (liveE C1) with fu := fuseE (liveE C1).fu (f : Int) } : Dk) = tick (liveE C1) f := by
      unfold tick fuseE
      rw [if_neg (by show ¬ (-1 : Int) = 0; omega), if_pos (by omega)]
    rw [e11] at hj11
    have HOP := Lib.hid (jatF_open hj11 HFC.out.1.1 HFC.out.1.2 (by show 0 < 900000; omega))
    clear hj11 HJ10 e11 HPK
    go_wp2_with fail
    refine HOP.out.mono ?_
    rintro e w12 ⟨gl2, rfl, hj12, _⟩
    obtain ⟨F12, hj12'⟩ := hj12.named
    have HCR := Lib.hid (jatF_crash hj12' _ B HB2.out (by rw [HNB.out]; omega))
    clear hj12 hj12' HOP
    go_wp2_with fail
    refine HCR.out.mono ?_
    rintro e w13 ⟨rfl, F13, hj13, _, _⟩
    have HOP := Lib.hid (jatF_open hj13 HFC.out.2.1.1 HFC.out.2.1.2 (by show 0 < 900000; omega))
    clear hj13 HCR
    go_wp2_with fail
    refine HOP.out.mono ?_
    rintro e w14 ⟨gl3, rfl, hj14, _⟩
    have hsl := state_law hj14
    have e14 : bytesS (dat (openE (crashE (openE (tick (liveE C1) f)) B)).N) = want := by
      rw [← Hw.out]
      exact congrArg bytesS HFC.out.2.2
    rw [e14] at hsl
    have HSL := Lib.hid hsl
    have hB14 : Below w2.heap.size w2 w14 := hj14.since
    clear hsl e14 hj14 HOP HFC
    go_wp2_with fail
    refine HSL.out.mono ?_
    rintro e w15 ⟨rfl, hb15⟩
    have hBF : Below w.heap.size w w15 := hB2.trans ((Below.step hB14 hb15).mono hB2.size)
    clear hb15
    go_wp2
    go_ret
    exact ⟨rfl, hBF⟩

end Go.Proofs.Ytdcplaonafmbjaa
