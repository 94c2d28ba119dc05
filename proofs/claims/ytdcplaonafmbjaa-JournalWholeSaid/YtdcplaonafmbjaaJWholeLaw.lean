/- JournalWhole: walked. -/
import Derived.Test.YtdcplaonafmbjaaJMay
import Derived.Test.YtdcplaonafmbjaaAppKeep
namespace Go.Proofs.Ytdcplaonafmbjaa
open Go.RowKit

def WholeInv (w0 : World) (a : Addr) (gl : Nat) (L : List (Value × PutL)) (f k : Nat) (mv : Value) (wr : World) : Prop :=
  ∃ F, JAtF w0 a gl (stF L f k).1 (stF L f k).2 F wr ∧ MayAt wr F gl w0.heap.size mv (mayL L k)

set_option maxRecDepth 100000 in
set_option maxHeartbeats 8000000 in
theorem whole_law (v : Value) (L : List (Value × PutL)) (f0 : Int) (kv : Value) (K : List Bool) (w : World) (h : PutsRows w v L) (hl : L.length ≤ maxLen) (hL : ∀ x ∈ L, x.2.length ≤ maxLen ∧ ∀ y, y ∈ x.2 → y.2.size ≤ maxLen) (hK : BoolsAt w kv K) (hKl : K.length ≤ maxLen) :
    Calls Try.prog 4 #[v, .int .i64 f0, kv] w fun e w' => e = .returned (.bool true) ∧ Below w.heap.size w w' := by
  obtain ⟨p, cp, rfl, HP⟩ := rows_open h
  obtain ⟨pk, ck, rfl, _⟩ : ∃ p c, kv = .slice p K.length c ∧ True := by
    obtain ⟨_, ⟨h0, a0, c0, rfl⟩ | ⟨g, o, cap, rfl, hc⟩⟩ := id hK
    · exact ⟨a0, c0, by rw [h0], trivial⟩
    · exact ⟨_, cap, rfl, trivial⟩
  obtain ⟨N, HN⟩ : ∃ N, Hid (L.length = N) := ⟨_, rfl⟩
  obtain ⟨NK, HNK⟩ : ∃ N, Hid (K.length = N) := ⟨_, rfl⟩
  have H := Lib.hid h
  have HLL := Lib.hid hL
  have HS := Lib.hid (fun k (hk : k < L.length) => puts_shape (h.2 L[k] (List.getElem_mem hk)))
  have HKB := Lib.hid hK
  unfold maxLen at hl hKl
  have hv : Value.slice p L.length cp = .slice p N cp := by rw [HN.out]
  rw [hv] at H ⊢
  rw [HN.out] at hl
  rw [HNK.out] at HKB hKl ⊢
  clear h hL hv hK
  go_enter Try.func4, Try.ntmps4
  go_wp2_with fail
  refine (told_true _).mono ?_
  rintro e w0 ⟨rfl, hb0⟩
  go_wp2_with fail
  refine (written_true _).mono ?_
  rintro e w1 ⟨rfl, hb1'⟩
  have hb1 := Below.step hb0 hb1'
  have H1 := Lib.hid (H.out.below hb1)
  clear hb0 hb1'
  by_cases h6 : 6 < N
  · have h62 : (6 : Int) < (N : Int) := by omega
    go_wp2
    go_ret
    exact ⟨rfl, hb1⟩
  have h62 : ¬ (6 : Int) < (N : Int) := by omega
  have HIN := Lib.hid (inR_any 20 whole_fid (.slice p N cp) L w1 H1.out (by rw [HN.out]; omega) (fun x hx W hW => heavyW_any x.1 x.2 W (RowAt.below (H1.out.2 x hx) hW) (HLL.out x hx).1 (HLL.out x hx).2))
  obtain ⟨b, Hb⟩ : ∃ b, Hid (anyHeavy L = b) := ⟨_, rfl⟩
  rw [Hb.out] at HIN
  go_wp2_with fail
  refine HIN.out.mono ?_
  rintro e w2 ⟨rfl, hb2⟩
  have hB2 := Below.step hb1 hb2
  have H2 := Lib.hid (H1.out.below hb2)
  have HK2 : Hid (BoolsAt w2 (.slice pk NK ck) K) := RowAt.below HKB.out hB2
  clear hb1 hb2 HIN
  cases b with
  | true =>
    go_wp2
    go_ret
    exact ⟨rfl, hB2⟩
  | false =>
    by_cases hk100 : 100 < NK
    · have hk1 : (100 : Int) < (NK : Int) := by omega
      go_wp2
      go_ret
      exact ⟨rfl, hB2⟩
    have hk1 : ¬ (100 : Int) < (NK : Int) := by omega
    have HLT : Hid (∀ k (hk : k < L.length), L[k].2.length ≤ 60) := fun k hk => by
      have h1 := Hb.out
      unfold anyHeavy at h1
      rw [List.any_eq_false] at h1
      have h2 := h1 L[k] (List.getElem_mem hk)
      unfold heavyB lightB at h2
      simp at h2
      exact h2.1
    go_wp2_with fail
    refine (new_any 20 20 rfl (by omega) (by omega) _).mono ?_
    rintro e w3 ⟨d, F0, rfl, hd, hF0, hb0, _⟩
    obtain ⟨a, rfl⟩ := hd.ptr
    have HO := Lib.hid (open_law hd hF0 hb0 fresh_dkw.bn (by rw [zeros_open]; exact goodL_nil) (by simp [freshE]))
    rw [open_fresh, seq_fresh] at HO
    clear hd hF0 hb0
    go_wp2_with fail
    refine HO.out.mono ?_
    rintro e w4 ⟨gl, rfl, hj, _, _⟩
    obtain ⟨F4, hj4⟩ := hj.named
    have HJ4 := Lib.hid hj4
    clear hj hj4 HO
    go_wp2_with fail
    refine (state_law HJ4.out.at).mono ?_
    rintro e w5 ⟨rfl, hb5⟩
    have HJ5 := Lib.hid (HJ4.out.below hb5)
    obtain ⟨s0, Hs0⟩ : ∃ s, Hid (bytesS (dat (freshE 20).N) = s) := ⟨_, rfl⟩
    have Hs0' : Hid (mayL L 0 = [s0]) := by
      show _ = _
      rw [← Hs0.out]
      show [bytesS (dK L 0)] = _
      congr 2
    rw [Hs0.out]
    clear hb5
    obtain ⟨f, Hf⟩ : ∃ q, Hid (pkN f0 100 = q) := ⟨_, rfl⟩
    have hf100 : f < 100 := by rw [← Hf.out]; exact pkN_lt f0 100 (by omega) (by omega)
    have HPK : Hid (∀ W : World, Calls Try.prog 23 #[.int .i64 f0, .int .i64 100] W fun e w' => e = .returned (.int .i64 (f : Int)) ∧ W = w') := fun W => by
      have := pickN f0 100 W (by omega) (by omega)
      rw [Hf.out] at this
      exact this
    have hja := HJ5.out.below ((Below.refl _ _).alloc (Nat.le_refl _) (.cells #[.string s0] 9))
    have hma : MayAt (w5.alloc (.cells #[.string s0] 9)) F4 gl w2.heap.size (.slice (some ⟨w5.heap.size, 0, none⟩) 1 1) [s0] := by
      refine ⟨⟨rfl, Or.inr ⟨w5.heap.size, 1, _, rfl, HJ5.out.b.size, heap_alloc_new w5 _, Nat.le_refl _, by unfold maxLen; omega, rfl, rfl⟩⟩, fun q hq => ?_⟩
      have : w5.heap.size = q := by simpa [Value.ownBlock] using hq
      subst this
      exact ⟨fun hc => by have := HJ5.out.d.fin _ hc; omega, fun hc => by have := heap_lt HJ5.out.l; omega⟩
    have HJA := Lib.hid hja
    have HMA := Lib.hid hma
    clear hja hma
    go_wp2_with fail
    refine (HPK.out _).mono ?_
    rintro e w' ⟨rfl, rfl⟩
    go_wp2_with fail
    refine (jatF_fuse HJA.out (f : Int) (by omega) (by omega)).mono ?_
    rintro e w6 ⟨rfl, F6, hj6, hF6, hk6⟩
    have e6 : ({ (freshE 20) with fu := fuseE (freshE 20).fu (f : Int) } : Dk) = tick (freshE 20) f := by
      unfold tick fuseE
      rw [if_neg (by show ¬ (-1 : Int) = 0; omega), if_pos (by omega)]
    rw [e6] at hj6
    have HI0 : Hid (WholeInv w2 a gl L f 0 (.slice (some ⟨w5.heap.size, 0, none⟩) 1 1) w6) := ⟨F6, hj6, by rw [Hs0'.out]; exact HMA.out.keeps hk6 hF6⟩
    clear hj6 hF6 hk6 e6 HJA HMA HJ5 HJ4
    go_wp2
    go_loopw [10, 11, 62] (fun mv ln i wr => ∃ k j : Nat, k ≤ N ∧ i = .int .i64 k ∧ ln = .int .i64 (j : Int) ∧ (j ≤ k ∧ (j = 0 ∨ (stF L f j).1.fu ≠ 0)) ∧ Hid (WholeInv w2 a gl L f k mv wr)) (fun _ _ i _ => N - (intOf i).toNat)
    case atStart => exact ⟨0, 0, Nat.zero_le _, rfl, rfl, ⟨Nat.le_refl _, Or.inl rfl⟩, HI0⟩
    case round =>
      obtain ⟨k, j, hk, rfl, rfl, hjk, HI⟩ := hrel
      have HJK := Lib.hid hjk
      have hjk1 := hjk.1
      obtain ⟨F, hj, hmay⟩ := HI.out
      have hsq := stK_sq (tick (freshE 20) f) L k (by omega)
      have hWk := stK_W (tick (freshE 20) f) L k (by omega) (by simp [freshE, tick])
      obtain ⟨st, Hst⟩ : ∃ q, Hid ((stF L f k).1 = q) := ⟨_, rfl⟩
      obtain ⟨sq, Hsq⟩ : ∃ q, Hid ((stF L f k).2 = q) := ⟨_, rfl⟩
      change (stF L f k).1.W.length < 700000 at hWk
      change 0 ≤ (stF L f k).2 ∧ (stF L f k).2 ≤ 10 at hsq
      rw [Hst.out] at hWk hj
      rw [Hsq.out] at hsq hj
      obtain ⟨pm, qm, hmv, HMC⟩ := owns_slice hmay.own
      obtain ⟨n, Hn⟩ : ∃ n, Hid (k + 1 = n) := ⟨_, rfl⟩
      have hn := Hn.out
      rw [mayL_len, Hn.out] at hmv
      subst hmv
      clear hjk
      by_cases hlt : k < N
      · obtain ⟨g, o, rfl, hg, hc⟩ := HP.out (by rw [HN.out]; omega)
        have hkl : k < L.length := by rw [HN.out]; exact hlt
        have hck := hc k hkl
        obtain ⟨px, cx, hx⟩ := HS.out k hkl
        have hB := hj.b
        have hput : PutsAt wr L[k].1 L[k].2 := RowAt.below (H2.out.2 L[k] (List.getElem_mem hkl)) hB
        have hl60 := HLT.out k hkl
        have hst := stK_snoc (tick (freshE 20) f, 0) L k hkl
        change stF L f (k + 1) = stepJ (stF L f k) _ at hst
        have hdk := dK_snoc L k hkl
        have hput2 : PutsAt w2 L[k].1 L[k].2 := H2.out.2 L[k] (List.getElem_mem hkl)
        rw [hx] at hck hput hput2
        obtain ⟨l, Hl⟩ : ∃ l, Hid (L[k].2 = l) := ⟨L[k].2, rfl⟩
        rw [Hl.out] at hck hput hput2 hl60 hst hdk
        obtain ⟨M, HM⟩ : ∃ M, Hid (l.length = M) := ⟨_, rfl⟩
        rw [HM.out] at hck hput hput2 hl60
        have HPU := Lib.hid hput2
        have c1 := (hB.cell (p := ⟨g, o + k, none⟩) (Nat.lt_of_lt_of_le hg hB2.size)).trans ((hB2.cell (p := ⟨g, o + k, none⟩) hg).trans hck)
        have HST : Hid (stF L f (k + 1) = (runE st (opsC sq (wrsF l)), sqC sq (wrsF l))) := by
          show _ = _
          rw [hst, ← Hst.out, ← Hsq.out]; rfl
        have HDK := Lib.hid hdk
        have HJ := Lib.hid hj
        have HMY := Lib.hid hmay
        have hlt2 : (k : Int) < (N : Int) := by omega
        have HWR := Lib.hid (writes_any _ l wr hput (by rw [HM.out]; omega))
        have HWK := Lib.hid hWk
        clear hj hmay hst hput hput2 hck hc hx hWk hdk HMC
        go_wp2_with fail
        refine HWR.out.mono ?_
        rintro e w5 ⟨v5, E5, rfl, hJ5, hE5, hb5⟩
        obtain ⟨p5, q5, rfl, _⟩ := jws_open (RowAt.of_owns hJ5.1)
        have HCM := Lib.hid (commit_lawF HJ.out hb5 hJ5 (by rw [hE5]; exact (wrs_good l).1) ⟨hsq.1, by omega⟩ (by have := HWK.out; omega))
        rw [hE5] at HCM
        have HMY5 := Lib.hid (HMY.out.below hb5)
        clear hJ5 hE5 hb5 HWR HMY
        go_wp2_with fail
        refine HCM.out.mono ?_
        rintro e w6 ⟨rfl, F6, hj6, hF6, hk6⟩
        have HJ6 := Lib.hid hj6
        have HMY6 := Lib.hid (HMY5.out.keeps hk6 hF6)
        have hB6 : Below w2.heap.size w2 w6 := hj6.b
        have HWR6 := Lib.hid (writes_any _ l w6.drew (RowAt.below (w := w2) HPU.out hB6.drew) (by rw [HM.out]; omega))
        have hown := HMY6.out.own
        rw [mayL_len, Hn.out] at hown
        obtain ⟨gm, rfl, _, hcell⟩ := row_cells hown (by omega)
        have HGK : Hid ((strs (mayL L k))[k]? = some (.string (bytesS (dK L k)))) := by
          have := mayL_get L k k (Nat.le_refl _)
          show (strs (mayL L k))[k]? = some (.string (bytesS (dK L k)))
          unfold strs
          rw [List.getElem?_map, this]; rfl
        have hgm := hcell k _ HGK.out
        have hgml : gm < w6.heap.size := block_lt_of_cell hgm
        obtain ⟨sk, Hsk⟩ : ∃ s, Hid (bytesS (dK L k) = s) := ⟨_, rfl⟩
        rw [Hsk.out] at hgm HGK
        have HOW := Lib.hid hown
        have HAP := Lib.hid HMY6.out.ap
        obtain ⟨i0, hi0, hz0, hz1, hz2⟩ := info_parts strInfo
        have HI0 := Lib.hid hi0
        have HIZ := Lib.hid hz0
        have HI1 := Lib.hid hz1
        have HI2 := Lib.hid hz2
        obtain ⟨sk1, Hsk1⟩ : ∃ s, Hid (bytesS (dK L (k + 1)) = s) := ⟨_, rfl⟩
        have HMN : Hid (strs (mayL L (k + 1)) = strs (mayL L k) ++ [.string sk1]) := by
          show _ = _
          rw [mayL_snoc, ← Hsk1.out]
          unfold strs
          rw [List.map_append]; rfl
        have hx0 : (0 : Int) ≤ (k : Int) := by omega
        have hx1 : (k : Int) < (n : Int) := by omega
        have hx3 : k < n := by omega
        have hw2 : IntKind.i64.wrap ((n : Int) - 1) = (k : Int) := by rw [IntWalk.i64_in _ (by omega)]; omega
        clear hcell hi0 hz0 hz1 hz2 hown hj6 hF6 hk6 HCM HMY5 HMY6
        go_wp2_with fail
        refine wp_region_noPanic ?_
        go_region_held_law (fun w' => w'.cell? ⟨gm, k, none⟩ = some (.string sk))
          (first
            | (go_keep; done)
            | exact m1
            | exact m2
            | exact m3)
          (first
            | (go_at_call 13; refine HWR6.out.mono ?_; rintro e w7 ⟨v7, E7, rfl, hJ7, hE7, hb7⟩
               have m1 : w7.cell? ⟨gm, k, none⟩ = some (.string sk) := (hb7.cell (p := ⟨gm, k, none⟩) hgml).trans hgm
               have hgd := (wrs_good l).1
               rw [← hE7] at hgd
               have haf := after_any v7 E7 (dK L k) w7 hJ7.at (dK_len L k) (fun x hx => hgd.n (jab x) (List.mem_map.2 ⟨x, hx, rfl⟩)) (by have := hgd.l; rw [List.length_map] at this; omega)
               rw [hE7, ← HDK.out, Hsk.out, Hsk1.out] at haf
               have HAF := Lib.hid haf
               have HB7 := Lib.hid hb7
               have hgm7 : gm < w7.heap.size := Nat.lt_of_lt_of_le hgml hb7.size
               clear haf hgd hJ7 hE7 hb7)
            | (go_at_call 24; refine HAF.out.mono ?_; rintro e w8 ⟨rfl, hb8⟩
               have m2 : w8.cell? ⟨gm, k, none⟩ = some (.string sk) := (hb8.cell (p := ⟨gm, k, none⟩) hgm7).trans m1
               have HB8 : Hid (Below w6.heap.size w6 w8) := (Below.refl _ _).drew.trans (Below.step HB7.out hb8)
               have HOW8 := Lib.hid (owns_below HOW.out HB8.out)
               have hz8 : w6.heap.size ≤ w8.heap.size := HB8.out.size
               have hz28 : w2.heap.size ≤ w8.heap.size := Nat.le_trans hB6.size hz8
               have hgm8 : gm < w8.heap.size := Nat.lt_of_lt_of_le hgml hz8
               clear hb8)
            | (refine step_append_keep (by rfl) _ _ _ (by rfl) w2.heap.size 9 i0 (.string { data := #[] }) 1 16 strT HI0.out HIZ.out HI1.out HI2.out rfl (by omega) gm n qm (strs (mayL L k)) (by rfl) (HOW8.out.alloc _)
                ⟨w8.heap.size, 0, none⟩ 1 1 [.string sk1] (by rfl) (by rfl) (World.news_of_block (cs := #[.string sk1]) (t := 9) (fr := (0, 0)) (heap_alloc_new w8 _)) (by simp [Value.oneCell'])
                (by omega) (by unfold maxLen; omega) (by omega) (by simp; omega) (w8.heap.size + 1) (by simp) ?_; intro gg cap9 w9 hown9 hgrow hat hlt9 hold
               have m3 : w9.cell? ⟨gm, k, none⟩ = some (.string sk) := hold k _ HGK.out
               have HOW9 := Lib.hid hown9
               have HGR := Lib.hid hgrow
               have HAT := Lib.hid hat
               clear hown9 hgrow hat hold))
        refine NoPanic.normal ?_
        have hr9 : ∀ q, some gm = some q → w2.heap.size ≤ q ∧ ¬ F6 q ∧ q ≠ gl := fun q hq => by
          injection hq with hq
          subst hq
          exact ⟨(HOW.out.lt gm rfl).1, HAP.out gm rfl⟩
        have hj9 : JAtF w2 a gl (runE st (opsC sq (wrsF l))) (sqC sq (wrsF l)) F6 w9 := (HJ6.out.below HB8.out).grown HGR.out hr9
        have hF68 : ∀ q, F6 q → q < w8.heap.size := fun q hq => Nat.lt_of_lt_of_le (HJ6.out.d.fin q hq) hz8
        have hgl8 : gl < w8.heap.size := Nat.lt_of_lt_of_le (heap_lt HJ6.out.l) hz8
        have hm9 : MayAt w9 F6 gl w2.heap.size (.slice (some ⟨gg, 0, none⟩) (n + 1) cap9) (mayL L (k + 1)) := by
          refine ⟨by rw [mayL_len, HMN.out, Hn.out]; exact HOW9.out, fun q hq => ?_⟩
          have hq' : gg = q := by simpa [Value.ownBlock] using hq
          subst hq'
          rcases HAT.out with h1 | h1
          · rw [h1]; exact HAP.out gm rfl
          · exact ⟨fun hc => by have := hF68 gg hc; omega, by omega⟩
        have HI9 : Hid (WholeInv w2 a gl L f (k + 1) (.slice (some ⟨gg, 0, none⟩) (n + 1) cap9) w9) := ⟨F6, by rw [HST.out]; exact hj9, hm9⟩
        have hst1 : (stF L f (k + 1)).1 = runE st (opsC sq (wrsF l)) := by rw [HST.out]
        have HDD := Lib.hid (dead_at hj9.d)
        rw [← hst1] at HDD
        have hw3 : IntKind.i64.wrap ((n : Int) + 1 - 1) = (n : Int) := by rw [IntWalk.i64_in _ (by omega)]; omega
        have hnk : (n : Int) = ((k + 1 : Nat) : Int) := by omega
        clear hj9 hm9 hF68 hgl8 hr9 HOW HAP HOW8 HOW9 HGR HAT HJ6 HAF HB7 HB8 HWR6 m1 m2 m3 hgm
        go_wp2_with fail
        refine HDD.out.mono ?_
        rintro e w' ⟨rfl, rfl⟩
        by_cases hdd : (stF L f (k + 1)).1.fu = 0
        · have hb0 : ((stF L f (k + 1)).1.fu == 0) = true := by rw [hdd]; rfl
          rw [hb0]
          go_wp2
          go_roundw
          case rel => exact ⟨k + 1, j, by omega, by go_num, rfl, ⟨by omega, HJK.out.2⟩, HI9⟩
          case measure => simp [intOf]; omega
        · have hb0 : ((stF L f (k + 1)).1.fu == 0) = false := by rw [beq_eq_false_iff_ne]; exact hdd
          have HFU : Hid ((stF L f (k + 1)).1.fu ≠ 0) := hdd
          rw [hb0]
          clear hdd
          go_wp2
          go_roundw
          case rel => exact ⟨k + 1, k + 1, by omega, by go_num, rfl, ⟨Nat.le_refl _, Or.inr HFU.out⟩, HI9⟩
          case measure => simp [intOf]; omega
      · have hkN : k = N := by omega
        have hkL : k ≤ L.length := by rw [HN.out]; exact hk
        have e1 : ByteL (crashE st K).N := by rw [← Hst.out]; exact (whole_end L f k j hkL (by omega) K HJK.out).1
        have e2 : GoodL (openL (crashE st K).N) := by rw [← Hst.out]; exact (whole_end L f k j hkL (by omega) K HJK.out).2.1
        have e3 : bytesS (dat (openE (crashE st K)).N) ∈ (mayL L k).drop j := by rw [← Hst.out]; exact (whole_end L f k j hkL (by omega) K HJK.out).2.2
        have E1 := Lib.hid e1
        have E2 := Lib.hid e2
        have E3 := Lib.hid e3
        have hnl : ¬ (k : Int) < (N : Int) := by omega
        have HCR := Lib.hid (jatF_crash hj _ K HK2.out (by rw [HNK.out]; omega))
        have HMY := Lib.hid hmay
        clear e1 e2 e3 hj hmay HMC
        go_wp2_with fail
        refine HCR.out.mono ?_
        rintro e w7 ⟨rfl, F7, hj7, hF7, hk7⟩
        have HOP := Lib.hid (jatF_open hj7 E1.out E2.out (by show 0 < 900000; omega))
        have HMY7 := Lib.hid (HMY.out.keeps hk7 hF7)
        clear hj7 hF7 hk7 HCR HMY
        go_wp2_with fail
        refine HOP.out.mono ?_
        rintro e w8 ⟨gl2, rfl, hj8, hk8⟩
        have hown := owns_keep (w' := w8) HMY7.out.own fun q hq => hk8.block q (HMY7.out.own.lt q hq).2 fun hc => by
          rcases hc with hc | hc
          · exact (HMY7.out.ap q hq).1 hc
          · exact (HMY7.out.ap q hq).2 hc
        rw [mayL_len, Hn.out] at hown
        obtain ⟨gm, rfl, ⟨_, hnq⟩, _⟩ := row_cells hown (by omega)
        have HOW := Lib.hid hown
        have HSL := Lib.hid (state_law hj8.drew)
        obtain ⟨s, Hs⟩ : ∃ s, Hid (bytesS (dat (openE (crashE st K)).N) = s) := ⟨_, rfl⟩
        rw [Hs.out] at HSL E3
        have hB8 : Below w2.heap.size w2 w8 := hj8.since
        have hqj : ¬ qm = j := by omega
        have hqj2 : ¬ (qm : Int) = (j : Int) := by omega
        have hjn : (j : Int) ≤ (n : Int) := by omega
        have hjn2 : j ≤ n := by omega
        have hjq : (j : Int) ≤ (qm : Int) := by omega
        have HSUB : Hid (∀ w9, Below w8.drew.heap.size w8.drew w9 → StrsAt w9 (.slice (some ⟨gm, j, none⟩) (n - j) (qm - j)) ((mayL L k).drop j)) := fun w9 hb9 => by
          have hown9 := owns_below (w := w8) HOW.out ((Below.refl _ _).drew.trans hb9)
          have hl9 : ((mayL L k).drop j).length = n - j := by rw [List.length_drop, mayL_len, Hn.out]
          obtain ⟨gm', hgm', _, hcell⟩ := row_cells hown9 (by omega)
          injection hgm' with hgm'
          injection hgm' with hgm' _ _
          subst hgm'
          refine ⟨by unfold strs; rw [List.length_map]; omega, Or.inr ⟨gm, j, qm - j, by rw [hl9], fun i x hx => hcell (j + i) x ?_⟩⟩
          unfold strs at hx ⊢
          rw [List.getElem?_map, List.getElem?_drop] at hx
          rw [List.getElem?_map]
          exact hx
        clear hk8 hj8 HOP HMY7 hown
        go_wp2_with fail
        refine wp_region_noPanic ?_
        go_region_held_law (fun _ => True)
          (trivial)
          (first
            | (go_at_call 21; refine HSL.out.mono ?_; rintro e w9 ⟨rfl, hb9⟩
               have HB9 := Lib.hid hb9
               have HST9 := Lib.hid (HSUB.out w9 hb9)
               clear hb9)
            | (go_at_call 27; refine (containsS_true _ _ s _ HST9.out (by rw [List.length_drop, mayL_len]; omega) E3.out).mono ?_; rintro e w' ⟨rfl, rfl⟩))
        refine NoPanic.normal ?_
        have hBF : Below w.heap.size w w9 := hB2.trans ((Below.step hB8.drew HB9.out).mono hB2.size)
        go_wp2
        go_ret
        exact ⟨rfl, hBF⟩

end Go.Proofs.Ytdcplaonafmbjaa
