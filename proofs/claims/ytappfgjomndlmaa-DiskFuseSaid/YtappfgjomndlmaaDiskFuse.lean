/- DiskFuse: for all writes, wherever the power goes and whatever is kept the statement returns true and leaves its arguments alone. No conditions. -/
import Derived.Test.YtappfgjomndlmaaDiskFuseP
namespace Go.Proofs.Ytappfgjomndlmaa
open Go.ChangeShapes Go.WideShapes Go.ChangeAt Go.RowKit

theorem dK_W (l : List (Int × ByteArray)) (f : Nat) : ∀ k, (dK l f k).W.length ≤ k
  | 0 => Nat.le_refl _
  | k + 1 => by
    have ih := dK_W l f k
    unfold dK
    split
    · unfold putOne
      have := writeE_W (dK l f k)
      exact Nat.le_trans (this _ _) (by omega)
    · omega

set_option maxRecDepth 100000 in
set_option maxHeartbeats 8000000 in
theorem diskFuse_raw (v : Value) (l : List (Int × ByteArray)) (n0 : Int) (kv : Value) (K : List Bool) (w : World) (h : PutsAt w v l) (hl : l.length ≤ maxLen) (hs : ∀ x, x ∈ l → x.2.size ≤ maxLen) (hcap : ∃ p c, v = .slice p l.length c ∧ l.length ≤ c) (hkv : BoolsAt w kv K) (hK : K.length ≤ maxLen) :
    Calls Try.prog 6 #[v, .int .i64 n0, kv] w fun e w' => e = .returned (.bool true) ∧ Below w.heap.size w w' := by
  have H := Lib.hid h
  have HS := Lib.hid hs
  have HLM := Lib.hid hl
  have HKV := Lib.hid hkv
  obtain ⟨M, HM⟩ : ∃ M, Hid (M = K.length) := ⟨_, rfl⟩
  obtain ⟨pk', cpk, hu⟩ : ∃ p cp, kv = .slice p M cp := by
    rw [HM.out]
    obtain ⟨_, ⟨h0, a0, c0, rfl⟩ | ⟨g, o, cap, rfl, hc⟩⟩ := hkv
    · exact ⟨a0, c0, by rw [h0]⟩
    · exact ⟨_, cap, rfl⟩
  subst hu
  unfold maxLen at hK
  rw [← HM.out] at hK
  obtain ⟨N, HN⟩ : ∃ N, Hid (N = l.length) := ⟨_, rfl⟩
  obtain ⟨p, cp, hv, hcp⟩ := hcap
  rw [← HN.out] at hv hcp
  subst hv
  clear h hs hl hkv
  go_enter Try.func6, Try.ntmps6
  go_wp2_with fail
  refine (written_true _).mono ?_
  rintro e w1 ⟨rfl, hb1⟩
  have H1 : Hid (PutsAt w1 (.slice p N cp) l) := RowAt.below H.out hb1
  go_wp2_with fail
  refine (light_any _ l _ H1.out HLM.out HS.out).mono ?_
  cases hlt : lightB l with
  | false =>
    rintro e w2 ⟨rfl, hb2⟩
    have hB2 := Below.step hb1 hb2
    clear hlt
    go_wp2
    go_ret
    exact ⟨rfl, hB2⟩
  | true =>
    rintro e w2 ⟨rfl, hb2⟩
    have hB2 := Below.step hb1 hb2
    have H2 : Hid (PutsAt w2 (.slice p N cp) l) := RowAt.below H1.out hb2
    by_cases hm : 100 < M
    · have hm2 : (100 : Int) < (M : Int) := by omega
      clear hlt
      go_wp2
      go_ret
      exact ⟨rfl, hB2⟩
    · have hm2 : ¬ (100 : Int) < (M : Int) := by omega
      have hl60 : l.length ≤ 60 := by unfold lightB at hlt; simp at hlt; exact hlt.1
      rw [← HN.out] at hl60
      clear hlt hb1 hb2
      go_wp2_with fail
      refine (pickN n0 ((N : Int) + 1) _ (by omega) (by omega)).mono ?_
      rintro e w' ⟨rfl, rfl⟩
      have hfN : pkN n0 ((N : Int) + 1) ≤ N := by
        have := pkN_lt n0 (N + 1) (by omega) (by omega)
        have e : ((N + 1 : Nat) : Int) = (N : Int) + 1 := by omega
        rw [e] at this
        omega
      generalize pkN n0 ((N : Int) + 1) = f at hfN ⊢
      go_wp2_with fail
      refine (new_any 16 16 rfl (by omega) (by omega) _).mono ?_
      rintro e w3 ⟨d, F1, rfl, hd, hF1, hb3, _⟩
      obtain ⟨a, rfl⟩ := hd.ptr
      have HD1 := Lib.hid hd
      have HF1 := Lib.hid hF1
      have H3 : Hid (PutsAt w3 (.slice p N cp) l) := RowAt.below H2.out hb3
      have HT : Hid (∀ c, PutsAt w3 (.slice p f c) (l.take f)) := fun c => puts_take H3.out HN.out f hfN c
      have HTL : Hid ((l.take f).length ≤ 1000) := by show _ ≤ _; rw [List.length_take, ← HN.out]; omega
      clear hd hF1
      have hf0 : (0 : Int) ≤ (f : Int) := by omega
      have hf1 : (f : Int) ≤ (cp : Int) := by omega
      go_wp2_with fail
      refine (spun_any _ (l.take f) (-1) _ (HT.out cp) HTL.out).mono ?_
      rintro e w4 ⟨b, rfl, F2, hD2, hF2, hb4⟩
      have HTW : Hid (TwoD w (.pointer (some a)) (.pointer (some b)) (freshE 16) (spunE (l.take f) (-1)) F1 F2 w4) :=
        ⟨HD1.out.below hb4, hD2, fun i hi => ⟨Nat.le_trans hB2.size (HF1.out i hi), fun hc => by have := HD1.out.fin i hi; have := hF2 i hc; omega⟩, fun i hi => Nat.le_trans (Nat.le_trans hB2.size hb3.size) (hF2 i hi), Below.step (Below.step hB2 hb3) hb4⟩
      have H4 : Hid (PutsAt w4 (.slice p N cp) l) := RowAt.below H3.out hb4
      have HB4 : Hid (Below w2.heap.size w2 w4) := Below.step hb3 hb4
      have HSE : Hid (∀ s, s = spunE (l.take f) (-1) → (crashE (dK l f N) K).S = (crashE s K).S) := fun s hs => by rw [hs, HN.out]; exact fuse_same l f (by rw [← HN.out]; exact hfN) K
      have HFU : Hid ((dK l f N).fu = 0) := by show _ = _; rw [HN.out]; exact (fuse_end l f (by rw [← HN.out]; exact hfN)).2.2
      generalize hse : spunE (l.take f) (-1) = se at HTW
      have HSEQ : Hid ((crashE (dK l f N) K).S = (crashE se K).S) := HSE.out se hse.symm
      clear hD2 hF2 HD1 HF1 hb3 hb4 HT HTL H3 HSE hse
      go_wp2_with fail
      refine (fuse_at HTW.out.1 (f : Int) (by omega) (by omega)).mono ?_
      rintro e w5 ⟨rfl, hdid⟩
      obtain ⟨F3, htw⟩ := HTW.out.did hdid
      have HT5 : Hid (∃ F3, TwoD w (.pointer (some a)) (.pointer (some b)) (dK l f 0) se F3 F2 w5) := by
        refine ⟨F3, ?_⟩
        have e : ({ freshE 16 with fu := fuseE (freshE 16).fu (f : Int) } : Dk) = dK l f 0 := by
          unfold dK fuseE freshE
          simp only
          rw [if_neg (by omega), if_pos (by omega)]
        rw [← e]; exact htw
      have hB5 : Below w.heap.size w w5 := htw.2.2.2.2
      clear hdid htw HTW
      go_wp2
      go_loopw [46] (fun i wr => ∃ k : Nat, k ≤ N ∧ i = .int .i64 k ∧ Hid (∃ F3, TwoD w (.pointer (some a)) (.pointer (some b)) (dK l f k) se F3 F2 wr)) (fun i _ => N - (intOf i).toNat)
      case atStart => exact ⟨0, Nat.zero_le _, rfl, HT5⟩
      case round =>
        obtain ⟨k, hk, rfl, HK⟩ := hrel
        by_cases hlt : k < N
        · obtain ⟨p', cp', hv', hp'⟩ := puts_open H.out N HN.out
          obtain ⟨g, o, hpg, hg, hc⟩ := hp' (by omega)
          have hpe : p = some ⟨g, o, none⟩ := by rw [← hpg]; injection hv'
          subst hpe
          have hkl : k < l.length := by rw [← HN.out]; exact hlt
          have hck := hc k hkl
          obtain ⟨x, hx⟩ : ∃ x, Hid (x = l[k].1) := ⟨l[k].1, rfl⟩
          obtain ⟨s, hs⟩ : ∃ s, Hid (s = l[k].2) := ⟨l[k].2, rfl⟩
          rw [← hx.out, ← hs.out] at hck
          obtain ⟨F3, hT⟩ := HK.out
          have hB : Below w.heap.size w wr := hT.2.2.2.2
          have c1 := (hB.cell (p := ⟨g, o + k * 2, none⟩) hg).trans hck.1
          have c2 := (hB.cell (p := ⟨g, o + (k * 2 + 1), none⟩) hg).trans hck.2
          rw [← Nat.add_assoc] at c2
          have hgl : g < wr.heap.size := Nat.lt_of_lt_of_le hg hB.size
          have hgn : ¬ g = wr.heap.size := by omega
          have HX : Hid (dK l f (k + 1) = putOne (dK l f k) (x, s)) := by
            show _ = _
            rw [dK, List.getElem?_eq_getElem hkl, hx.out, hs.out]
          clear hc hck hp' hpg hv'
          have hlt2 : (k : Int) < (N : Int) := by omega
          have hWq : (dK l f k).W.length < 1000000 := by have := dK_W l f k; omega
          have HTA : Hid (TwoD w (.pointer (some a)) (.pointer (some b)) (dK l f k) se F3 F2 (wr.alloc (.cells #[.int .i64 x, .string s] 29))) := hT.below ((Below.refl _ wr).alloc (Nat.le_refl _) _)
          have k1 : (wr.alloc (.cells #[.int .i64 x, .string s] 29)).cell? ⟨wr.heap.size, 0, none⟩ = some (.int .i64 x) := cell_of_row _ _ _ _ _ _ (heap_alloc_new wr _)
          have k2 : (wr.alloc (.cells #[.int .i64 x, .string s] 29)).cell? ⟨wr.heap.size, 1, none⟩ = some (.string s) := cell_of_row _ _ _ _ _ _ (heap_alloc_new wr _)
          have hzq : wr.heap.size < (wr.alloc (.cells #[.int .i64 x, .string s] 29)).heap.size := by simp
          have HNB : Hid (∀ i, F3 i → i ≠ wr.heap.size) := fun i hi => by have := hT.1.fin i hi; omega
          clear hT hB HK
          generalize dK l f k = stq at HTA hWq HX
          go_wp2_with fail
          generalize wr.alloc (.cells #[.int .i64 x, .string s] 29) = wq at *
          have HKQ1 := Lib.hid k1
          have HKQ2 := Lib.hid k2
          have HFIN : Hid (∀ i, F3 i → i < wq.drew.heap.size) := HTA.out.1.fin
          have HTD : Hid (TwoD w (.pointer (some a)) (.pointer (some b)) stq se F3 F2 wq.drew) := ⟨HTA.out.1.drew, HTA.out.2.1.drew, HTA.out.2.2.1, HTA.out.2.2.2.1, HTA.out.2.2.2.2.drew⟩
          clear HTA
          go_wp2_with fail
          go_region_held3 (fun w' => w'.cell? ⟨wr.heap.size, 0, none⟩ = some (.int .i64 x) ∧ w'.cell? ⟨wr.heap.size, 1, none⟩ = some (.string s))
            (first
              | (go_keep; done)
              | exact And.intro m1 m2
              | exact And.intro n1 n2)
            (first
              | (go_at_call 10; refine (pickN _ _ _ (by omega) (by omega)).mono ?_; rintro e w' ⟨rfl, rfl⟩)
              | (go_at_call 11; refine (sector_any s wq.drew).mono ?_; rintro e w6 ⟨v6, rfl, hv6⟩; have m1 : w6.cell? ⟨wr.heap.size, 0, none⟩ = some (.int .i64 x) := (hv6.below.cell (p := ⟨wr.heap.size, 0, none⟩) hzq).trans HKQ1.out; have m2 : w6.cell? ⟨wr.heap.size, 1, none⟩ = some (.string s) := (hv6.below.cell (p := ⟨wr.heap.size, 1, none⟩) hzq).trans HKQ2.out; have HV6 := Lib.hid hv6; have HT6 : Hid (TwoD w (.pointer (some a)) (.pointer (some b)) stq se F3 F2 w6) := HTD.out.below hv6.below; clear hv6)
              | (go_at_call 19; refine (write_at HT6.out.1 (pkN x 16) (pkN_lt x 16 (by omega) (by omega)) _ (secS s) (secS_len s) (HV6.out.keep HFIN.out) hWq).mono ?_; rintro e w7 ⟨rfl, hdid⟩; have n1 : w7.cell? ⟨wr.heap.size, 0, none⟩ = some (.int .i64 x) := (hdid.keeps.cell (Nat.lt_of_lt_of_le hzq HV6.out.below.size) (fun h => HNB.out _ h rfl)).trans m1; have n2 : w7.cell? ⟨wr.heap.size, 1, none⟩ = some (.string s) := (hdid.keeps.cell (Nat.lt_of_lt_of_le hzq HV6.out.below.size) (fun h => HNB.out _ h rfl)).trans m2; have HDID := Lib.hid hdid; clear hdid))
          all_goals
            have HO : Hid (∃ F3, TwoD w (.pointer (some a)) (.pointer (some b)) (dK l f (k + 1)) se F3 F2 w7) := by
              rw [HX.out]
              exact HT6.out.did HDID.out
            clear HDID
            go_wp2
            go_roundw
            case rel => exact ⟨k + 1, by omega, by go_num, HO⟩
            case measure => simp [intOf]; omega
        · obtain rfl : k = N := by omega
          generalize dK l f k = sd at HK HFU HSEQ
          obtain ⟨F3, hT⟩ := HK.out
          have HT6 := Lib.hid hT
          clear hT HK
          go_wp2_with fail
          refine (flush_at HT6.out.1).mono ?_
          rintro e w6 ⟨rfl, hdid⟩
          have e6 : flushE sd = sd := by unfold flushE; rw [if_pos HFU.out]
          rw [e6] at hdid
          obtain ⟨F4, hT7⟩ := HT6.out.did hdid
          have HT7 := Lib.hid hT7
          clear hdid hT7 e6 HT6
          go_wp2_with fail
          refine ((dead_at HT7.out.1).mono (fun e w' h => (⟨h.1.trans (by rw [HFU.out]; rfl), h.2⟩ : e = .returned (.bool true) ∧ w6 = w'))).mono ?_
          rintro e w' ⟨rfl, rfl⟩
          go_wp2_with fail
          refine (crash_at HT7.out.1 _ K (fun w' hk => keep_bools HKV.out HT7.out.2.2.2.2 (fun i hi => (HT7.out.2.2.1 i hi).1) hk) (by rw [← HM.out]; omega)).mono ?_
          rintro e w7 ⟨rfl, hdid⟩
          obtain ⟨F5, hT8⟩ := HT7.out.did hdid
          have HT8 := Lib.hid hT8.swap
          clear hdid hT8 HT7
          go_wp2_with fail
          refine (crash_at HT8.out.1 _ K (fun w' hk => keep_bools HKV.out HT8.out.2.2.2.2 (fun i hi => (HT8.out.2.2.1 i hi).1) hk) (by rw [← HM.out]; omega)).mono ?_
          rintro e w8 ⟨rfl, hdid⟩
          obtain ⟨F6, hT9⟩ := HT8.out.did hdid
          have HT9 := Lib.hid hT9
          have HFD : Hid ((crashE sd K).fu = -1) := rfl
          have HLS : Hid (0 < (crashE se K).S.length) := by rw [hT9.1.lens.1]; exact (by omega : 0 < 64 * 16)
          obtain ⟨B, HBB⟩ : ∃ B, Hid (B = bytesS (crashE se K).S) := ⟨_, rfl⟩
          generalize crashE sd K = sd2 at HT9 HSEQ HFD
          generalize crashE se K = se2 at HT9 HSEQ HLS HBB
          clear hdid hT9 HT8
          have HTA : Hid (DiskAt w8.drew (.pointer (some a)) sd2 16 F5) := HT9.out.2.1.drew
          have HTB : Hid (DiskAt w8.drew (.pointer (some b)) se2 16 F6) := HT9.out.1.drew
          have hB8 : Below w.heap.size w w8.drew := HT9.out.2.2.2.2.drew
          go_wp2_with fail
          refine wp_region_noPanic ?_
          go_region_held_law (fun _ => True) (trivial)
            (first
              | (go_at_call 21; refine ((dead_at HTA.out).mono (fun e w' h => (⟨h.1.trans (by rw [HFD.out]; rfl), h.2⟩ : e = .returned (.bool false) ∧ w8.drew = w'))).mono ?_; rintro e w' ⟨rfl, rfl⟩)
              | (go_at_call_of 16 (Value.pointer (some a)); refine (image_at HTA.out).mono ?_; rintro e w9 ⟨v9, rfl, hv9⟩
                 rw [HSEQ.out] at hv9
                 have hc9 : (convert 26 9 v9).run Try.prog w9 = .ok (.string B) w9 := by rw [HBB.out]; exact conv_bytes hv9.at HLS.out
                 have HV9 := Lib.hid hv9
                 have HTC : Hid (DiskAt w9 (.pointer (some b)) se2 16 F6) := HTB.out.below hv9.below
                 clear hv9)
              | (go_at_call_of 16 (Value.pointer (some b)); refine (image_at HTC.out).mono ?_; rintro e w10 ⟨v10, rfl, hv10⟩
                 have hc10 : (convert 26 9 v10).run Try.prog w10 = .ok (.string B) w10 := by rw [HBB.out]; exact conv_bytes hv10.at HLS.out
                 have hc11 : (convert 26 9 v9).run Try.prog w10 = .ok (.string B) w10 := by rw [HBB.out]; exact conv_bytes (RowAt.below HV9.out.at hv10.below) HLS.out
                 have hB10 : Below w.heap.size w w10 := Below.step (Below.step hB8 HV9.out.below) hv10.below
                 clear hv10))
          all_goals
            refine NoPanic.normal ?_
            go_wp2
            go_ret
            exact ⟨rfl, hB10⟩

theorem diskFuse_true (v : Value) (l : List (Int × ByteArray)) (h1 : l.length ≤ maxLen) (hx : ∀ x, x ∈ l → x.2.size ≤ maxLen) (n : Int) (kv : Value) (K : List Bool) (hK : K.length ≤ maxLen) (w : World) (h : PutsAt w v l) (hk : BoolsAt w kv K) (hcap : ∃ p c, v = .slice p l.length c ∧ l.length ≤ c) :
    Calls Try.prog 6 #[v, .int .i64 n, kv] w fun e w' => e = .returned (.bool true) ∧ Below w.heap.size w w' :=
  diskFuse_raw v l n kv K w h h1 hx hcap hk hK

-- CLOSING

set_option maxRecDepth 100000 in
theorem diskFuse_lifted (os : Os) (started : os.Started) (H : Type) (enc' : TypeId × Value → H) :
    ReturnsInHanded {} Try.checked os 6 .any (Rows.diskFuseSpec.pre6 enc' Try.prog Try.f6 Rows.diskFuseRow.domain false) (Rows.diskFuseSpec.post enc' Try.prog Try.f6 false true false false) := by
  refine returnsInHanded_of_change (C := Try.checked) Try.own started (by kernel_rfl) Try.func6
    (ChangeSpec.witness6 (enc := enc') (C := Try.checked) false ⟨#[], #[(.slice none 0 0), (.int .i64 0), (.slice none 0 0)], []⟩ 8 (by kernel_rfl) (by kernel_rfl) (by kernel_rfl) (by kernel_rfl)) ?_
  intro W base args ds gs before hval0 hW hcnd _
  have hval : ∀ (j : Nat) t v, Try.f6.params[j]? = some t → args[j]? = some v → Value.okWide Try.prog W .any base t v := hval0
  have hW' := hW
  obtain ⟨p, q, hA0, hV, rfl, hfz, hnd⟩ := hW
  have hA : DataW.TrodAll enc' Try.prog W 0 (fun _ => true) true Try.f6.params.toList args.toList ds p := hA0
  rw [Try.params6] at hA hval
  obtain ⟨v0, v1, v2, d0, d1, d2, p0, p1, p2, rfl, rfl, rfl, h0, h1, h2⟩ := trodAll_three hA
  obtain ⟨rfl, rfl⟩ := trodVars_none hV
  obtain ⟨l0, hI0, hM0, hx0⟩ := open_putsAt (P := Try.prog) Try.underlying22 Try.underlying29 (by kernel_rfl) rfl rfl (by kernel_rfl) (by kernel_rfl) (by kernel_rfl) (by kernel_rfl) (hval 0 22 v0 rfl rfl) h0
  have hC0 := open_putsCap (P := Try.prog) Try.underlying22 Try.underlying29 (by kernel_rfl) rfl rfl (by kernel_rfl) (by kernel_rfl) (hval 0 22 v0 rfl rfl) h0 hI0
  obtain ⟨n, rfl, rfl, rfl, wn⟩ := open_int Try.underlying3 (hval 1 3 v1 rfl rfl) h1
  obtain ⟨l2, hI2, hM2⟩ := open_boolsAt (P := Try.prog) Try.underlying34 Try.underlying4 (by kernel_rfl) (hval 2 34 v2 rfl rfl) h2
  clear hA0 hval0
  refine (diskFuse_true _ l0 hM0 hx0 n _ l2 hM2 W hI0 hI2 hC0).mono fun e W' ⟨he, hw⟩ => ?_
  subst he
  exact ⟨_, rfl, law_post 4 Try.laidOut (by kernel_rfl) rfl rfl Try.underlying4 hW' rfl hw⟩

theorem diskFuse_holds : Rows.DiskFuseSaid :=
  OpenClaim.holds_of_wide 6 Try.f6 rfl rfl rfl rfl rfl rfl rfl ⟨rfl, rfl, rfl, rfl, rfl⟩ rfl rfl rfl rfl rfl (by kernel_rfl) Try.func6 (by kernel_rfl)
    (of_decide_eq_true (by kernel_rfl)) (by unfold Func.isWrapper; first | (rw [if_pos (by decide +kernel)]; kernel_rfl) | (rw [if_neg (by decide +kernel)]; exact ⟨rfl, rfl⟩))
    (fun os started H enc _ => diskFuse_lifted os started H enc)

end Go.Proofs.Ytappfgjomndlmaa
