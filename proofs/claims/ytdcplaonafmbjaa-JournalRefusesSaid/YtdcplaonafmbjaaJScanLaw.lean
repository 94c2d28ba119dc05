/- JournalScan: walked. -/
import Derived.Test.YtdcplaonafmbjaaJLawF
import Derived.Test.YtdcplaonafmbjaaJEq
namespace Go.Proofs.Ytdcplaonafmbjaa
open Go.RowKit

def wrLs (L : List (Value × PutL)) : List (List Wr) := L.map fun x => wrsF x.2
theorem wrLs_good (L : List (Value × PutL)) : GoodLs (wrLs L) := fun M hM => by
  obtain ⟨x, _, rfl⟩ := List.mem_map.1 hM
  exact wrs_good x.2
theorem wrLs_snoc (L : List (Value × PutL)) (k : Nat) (hk : k < L.length) : wrLs (L.take (k + 1)) = wrLs (L.take k) ++ [wrsF L[k].2] := by
  unfold wrLs
  rw [← List.take_append_getElem hk, List.map_append]; rfl
/-- The state behind k commits. -/
def stK (p : Dk × Int) (L : List (Value × PutL)) (k : Nat) : Dk × Int := stJ p (wrLs (L.take k))
theorem stK_snoc (p : Dk × Int) (L : List (Value × PutL)) (k : Nat) (hk : k < L.length) : stK p L (k + 1) = stepJ (stK p L k) (wrsF L[k].2) := by
  unfold stK; rw [wrLs_snoc L k hk, stJ_snoc]
theorem stK_W (st : Dk) (L : List (Value × PutL)) (k : Nat) (hk : k ≤ 10) (h : st.W.length ≤ 100) : (stK (st, 0) L k).1.W.length < 700000 := by
  have := stJ_W (wrLs (L.take k)) st 0 (wrLs_good _)
  have h2 : (wrLs (L.take k)).length ≤ k := by unfold wrLs; rw [List.length_map, List.length_take]; omega
  unfold stK; omega
theorem stK_sq (st : Dk) (L : List (Value × PutL)) (k : Nat) (hk : k ≤ 10) : 0 ≤ (stK (st, 0) L k).2 ∧ (stK (st, 0) L k).2 ≤ 10 := by
  have := stJ_sq (wrLs (L.take k)) st 0
  have h2 : (wrLs (L.take k)).length ≤ k := by unfold wrLs; rw [List.length_map, List.length_take]; omega
  unfold stK; omega
def lastK' (L : List (Value × PutL)) (k : Nat) : List Wr := lastL [] (wrLs (L.take k))
theorem lastK'_snoc (L : List (Value × PutL)) (k : Nat) (hk : k < L.length) : lastK' L (k + 1) = lastC (lastK' L k) (wrsF L[k].2) := by
  unfold lastK'; rw [wrLs_snoc L k hk, lastL_snoc]
theorem rest_fresh (L : List (Value × PutL)) (k : Nat) (hk : k ≤ 10) : Rest (stK (freshE 20, 0) L k).1 (aftL (List.replicate 640 0) (wrLs (L.take k))) (stK (freshE 20, 0) L k).2 (lastK' L k) := by
  have h2 : (wrLs (L.take k)).length ≤ k := by unfold wrLs; rw [List.length_map, List.length_take]; omega
  exact rest_run (wrLs (L.take k)) fresh_rest (by omega) (by omega) (wrLs_good _)

def ScanInv (w0 : World) (a : Addr) (gl : Nat) (L : List (Value × PutL)) (k : Nat) (lv : Value) (wr : World) : Prop :=
  ∃ F E, JAtF w0 a gl (stK (freshE 20, 0) L k).1 (stK (freshE 20, 0) L k).2 F wr ∧ LastAt wr F gl lv E ∧ E.map jab = lastK' L k

set_option maxRecDepth 100000 in
set_option maxHeartbeats 8000000 in
theorem scan_law (v : Value) (L : List (Value × PutL)) (w : World) (h : PutsRows w v L) (hl : L.length ≤ maxLen) (hL : ∀ x ∈ L, x.2.length ≤ maxLen ∧ ∀ y, y ∈ x.2 → y.2.size ≤ maxLen) :
    Calls Try.prog 3 #[v] w fun e w' => e = .returned (.bool true) ∧ Below w.heap.size w w' := by
  obtain ⟨p, cp, rfl, HP⟩ := rows_open h
  obtain ⟨N, HN⟩ : ∃ N, Hid (L.length = N) := ⟨_, rfl⟩
  have H := Lib.hid h
  have HLL := Lib.hid hL
  have HS := Lib.hid (fun k (hk : k < L.length) => puts_shape (h.2 L[k] (List.getElem_mem hk)))
  unfold maxLen at hl
  have hv : Value.slice p L.length cp = .slice p N cp := by rw [HN.out]
  rw [hv] at H ⊢
  rw [HN.out] at hl
  clear h hL hv
  go_enter Try.func3, Try.ntmps3
  go_wp2_with fail
  refine (told_true _).mono ?_
  rintro e w1 ⟨rfl, hb1⟩
  have H1 := Lib.hid (H.out.below hb1)
  by_cases h6 : 6 < N
  · have h62 : (6 : Int) < (N : Int) := by omega
    go_wp2
    go_ret
    exact ⟨rfl, hb1⟩
  have h62 : ¬ (6 : Int) < (N : Int) := by omega
  have HIN := Lib.hid (inR_any 9 scan_fid (.slice p N cp) L w1 H1.out (by rw [HN.out]; omega) (fun x hx W hW => heavyS_any x.1 x.2 W (RowAt.below (H1.out.2 x hx) hW) (HLL.out x hx).1 (HLL.out x hx).2))
  obtain ⟨b, Hb⟩ : ∃ b, Hid (anyHeavy L = b) := ⟨_, rfl⟩
  rw [Hb.out] at HIN
  go_wp2_with fail
  refine HIN.out.mono ?_
  rintro e w2 ⟨rfl, hb2⟩
  have hB2 := Below.step hb1 hb2
  have H2 := Lib.hid (H1.out.below hb2)
  clear hb1 hb2 HIN
  cases b with
  | true =>
    go_wp2
    go_ret
    exact ⟨rfl, hB2⟩
  | false =>
    have HLT : Hid (∀ k (hk : k < L.length), L[k].2.length ≤ 60) := fun k hk => by
      have h1 := Hb.out
      unfold anyHeavy at h1
      rw [List.any_eq_false] at h1
      have h2 := h1 L[k] (List.getElem_mem hk)
      unfold heavyB lightB at h2
      simp at h2
      exact h2.1
    go_wp2_with fail
    refine (new_any 20 20 rfl (by omega) (by omega) _).mono ?_
    rintro e w3 ⟨d, F0, rfl, hd, hF0, hb0, _⟩
    obtain ⟨a, rfl⟩ := hd.ptr
    have HO := Lib.hid (open_law hd hF0 hb0 fresh_dkw.bn (by rw [zeros_open]; exact goodL_nil) (by simp [freshE]))
    rw [open_fresh, seq_fresh] at HO
    clear hd hF0 hb0
    go_wp2_with fail
    refine HO.out.mono ?_
    rintro e w4 ⟨gl, rfl, hj, _, _⟩
    obtain ⟨F4, hj4⟩ := hj.named
    have HI0 : Hid (ScanInv w2 a gl L 0 (.slice none 0 0) w4) := ⟨F4, [], hj4, LastAt.nil _ _ _, rfl⟩
    clear hj hj4 HO
    go_wp2
    go_loopw [6, 7, 46] (fun n lv i wr => ∃ k : Nat, k ≤ N ∧ i = .int .i64 k ∧ n = .int .u32 (stK (freshE 20, 0) L k).2 ∧ Hid (ScanInv w2 a gl L k lv wr)) (fun _ _ i _ => N - (intOf i).toNat)
    case atStart => exact ⟨0, Nat.zero_le _, rfl, rfl, HI0⟩
    case round =>
      obtain ⟨k, hk, rfl, rfl, HK⟩ := hrel
      obtain ⟨F, E, hj, hlast, hE⟩ := HK.out
      have hsq := stK_sq (freshE 20) L k (by omega)
      obtain ⟨sq, Hsq⟩ : ∃ q, Hid ((stK (freshE 20, 0) L k).2 = q) := ⟨_, rfl⟩
      rw [Hsq.out] at hsq ⊢
      by_cases hlt : k < N
      · obtain ⟨g, o, rfl, hg, hc⟩ := HP.out (by rw [HN.out]; omega)
        have hkl : k < L.length := by rw [HN.out]; exact hlt
        have hck := hc k hkl
        obtain ⟨px, cx, hx⟩ := HS.out k hkl
        have hB := hj.b
        have hput : PutsAt wr L[k].1 L[k].2 := RowAt.below (H2.out.2 L[k] (List.getElem_mem hkl)) hB
        have hl60 := HLT.out k hkl
        have hst := stK_snoc (freshE 20, 0) L k hkl
        have hla := lastK'_snoc L k hkl
        rw [hx] at hck hput
        obtain ⟨l, Hl⟩ : ∃ l, Hid (L[k].2 = l) := ⟨L[k].2, rfl⟩
        rw [Hl.out] at hck hput hl60 hst hla
        obtain ⟨M, HM⟩ : ∃ M, Hid (l.length = M) := ⟨_, rfl⟩
        rw [HM.out] at hck hput hl60
        have c1 := (hB.cell (p := ⟨g, o + k, none⟩) (Nat.lt_of_lt_of_le hg hB2.size)).trans ((hB2.cell (p := ⟨g, o + k, none⟩) hg).trans hck)
        have hWk := stK_W (freshE 20) L k (by omega) (by simp [freshE])
        obtain ⟨st, Hst⟩ : ∃ q, Hid ((stK (freshE 20, 0) L k).1 = q) := ⟨_, rfl⟩
        have HST : Hid (stK (freshE 20, 0) L (k + 1) = (runE st (opsC sq (wrsF l)), sqC sq (wrsF l))) := by
          show _ = _
          rw [hst, ← Hst.out, ← Hsq.out]; rfl
        rw [Hst.out] at hj hWk
        rw [Hsq.out] at hj
        have HJ := Lib.hid hj
        have HLA := Lib.hid hlast
        have HLK := Lib.hid hla
        have HEE := Lib.hid hE
        have hlt2 : (k : Int) < (N : Int) := by omega
        have HWR := Lib.hid (writes_any _ l wr hput (by rw [HM.out]; omega))
        have HWK := Lib.hid hWk
        clear hj hlast hla hE hst hput hck hc hx hWk
        go_wp2_with fail
        refine HWR.out.mono ?_
        rintro e w5 ⟨v5, E5, rfl, hJ5, hE5, hb5⟩
        obtain ⟨p5, q5, rfl, _⟩ := jws_open (RowAt.of_owns hJ5.1)
        have hL5 : LastAt w5 F gl _ E5 := LastAt.fresh HJ.out hJ5
        have HCM := Lib.hid (commit_lawF HJ.out hb5 hJ5 (by rw [hE5]; exact (wrs_good l).1) ⟨hsq.1, by omega⟩ (by have := HWK.out; omega))
        rw [hE5] at HCM
        have HL5 := Lib.hid hL5
        have HLA5 := Lib.hid (HLA.out.below hb5)
        have HE5 := Lib.hid hE5
        obtain ⟨m, Hm⟩ : ∃ m, Hid (E5.length = m) := ⟨_, rfl⟩
        rw [Hm.out] at HCM HL5 ⊢
        have hm4 : m ≤ 4 := by
          have h1 := congrArg List.length hE5
          rw [List.length_map, Hm.out] at h1
          have := wrsF_len l
          omega
        have HMW : Hid ((wrsF l).length = m) := by show _ = _; rw [← hE5, List.length_map]; exact Hm.out
        clear hJ5 hE5 hb5 hL5 HWR HLA
        go_wp2_with fail
        refine HCM.out.mono ?_
        rintro e w6 ⟨rfl, F6, hj6, hF6, hk6⟩
        have HJ6 := Lib.hid hj6
        have HL6 := Lib.hid (HL5.out.keeps hk6 hF6)
        have HLA6 := Lib.hid (HLA5.out.keeps hk6 hF6)
        clear hj6 hF6 hk6 HCM HL5 HLA5
        by_cases hm0 : 0 < m
        · have hm0i : (0 : Int) < (m : Int) := by omega
          have hs1 : sqC sq (wrsF l) = sq + 1 := by unfold sqC; rw [if_neg (by rw [HMW.out]; omega)]
          have hwu : IntKind.u32.wrap (sq + 1) = sq + 1 := by rw [IntKind.wrap_u32]; omega
          have hnx : Hid ((stK (freshE 20, 0) L (k + 1)).2 = sq + 1) := by show _ = _; rw [HST.out]; exact hs1
          have HI : Hid (ScanInv w2 a gl L (k + 1) (.slice p5 m q5) w6) := by
            refine ⟨F6, E5, by rw [HST.out]; exact HJ6.out, HL6.out, ?_⟩
            rw [HLK.out, HE5.out]
            unfold lastC
            rw [if_neg (by rw [HMW.out]; omega)]
          clear HJ6 HL6 HLA6 hs1
          go_wp2
          go_roundw
          case rel => exact ⟨k + 1, by omega, by go_num, by rw [hnx.out], HI⟩
          case measure => simp [intOf]; omega
        · have hm0i : ¬ (0 : Int) < (m : Int) := by omega
          have hmz : m = 0 := by omega
          have hs1 : sqC sq (wrsF l) = sq := by unfold sqC; rw [if_pos (by rw [HMW.out]; omega)]
          have hnx : Hid ((stK (freshE 20, 0) L (k + 1)).2 = sq) := by show _ = _; rw [HST.out]; exact hs1
          have HI : Hid (ScanInv w2 a gl L (k + 1) u7 w6) := by
            refine ⟨F6, E, by rw [HST.out]; exact HJ6.out, HLA6.out, ?_⟩
            rw [HLK.out, HEE.out]
            unfold lastC
            rw [if_pos (by rw [HMW.out]; omega)]
          clear HJ6 HL6 HLA6 hs1
          subst hmz
          go_wp2
          go_roundw
          case rel => exact ⟨k + 1, by omega, by go_num, by rw [hnx.out], HI⟩
          case measure => simp [intOf]; omega
      · have hkN : k = N := by omega
        have hR := rest_fresh L k (by omega)
        obtain ⟨st, Hst⟩ : ∃ q, Hid ((stK (freshE 20, 0) L k).1 = q) := ⟨_, rfl⟩
        rw [Hst.out, Hsq.out] at hR hj
        have hnl : ¬ (k : Int) < (N : Int) := by omega
        have HSC := Lib.hid (scan_raw hj.d hR.ok.bn)
        unfold ScanRes at HSC
        have HJ := Lib.hid hj
        have HLA := Lib.hid hlast
        have hB := hj.b
        rcases hR.c with ⟨hL0, hs0, _, hz, _⟩ | ⟨hL0, hg, hb, hq0, hq1, _, ht, _, _⟩
        · have e0 := (open_nohead hz).2
          have hE0 : E = [] := by
            have := congrArg List.length hE
            rw [hL0, List.length_map] at this
            exact List.length_eq_zero_iff.1 this
          subst hE0
          subst hs0
          have HS1 : Hid (Calls Try.prog 15 #[.pointer (some a), .int .i64 2, .int .i64 6] wr fun e w' => e = .returned (.tuple #[.slice none 0 0, .int .u32 0, .bool false, .int .i64 0]) ∧ Below wr.heap.size wr w') := HSC.out.mono fun e w' h => by
            rcases h with ⟨_, he, hb⟩ | ⟨hc, _⟩ | ⟨hc, _⟩
            · exact ⟨he, hb⟩
            · rw [e0] at hc; cases hc
            · rw [e0] at hc; cases hc
          obtain ⟨p7, q7, rfl, _⟩ := jws_open (RowAt.of_owns HLA.out.two.1)
          clear hj hlast hE hR hz hL0 HSC e0
          go_wp2_with fail
          refine HS1.out.mono ?_
          rintro e w5 ⟨rfl, hb5⟩
          have HJ5 := Lib.hid (HJ.out.below hb5)
          have HEQ := Lib.hid (eqWs_any (.slice none 0 0) (.slice p7 ([] : List Jw).length q7) [] [] w5 ⟨⟨rfl, Or.inl ⟨rfl, none, 0, rfl⟩⟩, by simp⟩ (HLA.out.below hb5).two.at rfl (by simp))
          clear hb5 HS1 HLA HJ
          go_wp2_with fail
          refine (seq_at HJ5.out.l).mono ?_
          rintro e w' ⟨rfl, rfl⟩
          go_wp2_with fail
          refine HEQ.out.mono ?_
          rintro e w6 ⟨rfl, hb6⟩
          have hB6 := hB2.trans ((Below.step HJ5.out.b hb6).mono hB2.size)
          clear hb6
          go_wp2
          go_ret
          exact ⟨rfl, hB6⟩
        · have h5 := open_told ht hL0 hg ⟨by omega, hq1⟩
          have HS1 : Hid (Calls Try.prog 15 #[.pointer (some a), .int .i64 2, .int .i64 6] wr fun e w' => ∃ v5 E5, e = .returned (.tuple #[v5, .int .u32 sq, .bool true, .int .i64 0]) ∧ E5.map jab = lastK' L k ∧ JwsTwo w' wr.heap.size wr.heap.size v5 E5 ∧ Below wr.heap.size wr w') := HSC.out.mono fun e w' h => by
            rcases h with ⟨hc, _⟩ | ⟨_, hc, _⟩ | ⟨_, _, v5, E5, he, hE5, hJ5, hb⟩
            · rw [h5.2.1] at hc; cases hc
            · rw [h5.2.2.1] at hc; cases hc
            · exact ⟨v5, E5, by rw [he, h5.2.2.2.1], by rw [hE5, h5.2.2.2.2], hJ5, hb⟩
          have HLL4 : Hid ((lastK' L k).length ≤ 4) := hg.l
          obtain ⟨p7, q7, rfl, _⟩ := jws_open (RowAt.of_owns HLA.out.two.1)
          obtain ⟨m, Hm⟩ : ∃ m, Hid (E.length = m) := ⟨_, rfl⟩
          have HEE := Lib.hid hE
          rw [Hm.out] at HLA ⊢
          clear hj hlast hE hR hL0 HSC h5 ht hb hg
          go_wp2_with fail
          refine HS1.out.mono ?_
          rintro e w5 ⟨v5, E5, rfl, hE5, hJ5, hb5⟩
          have HJ5 := Lib.hid (HJ.out.below hb5)
          obtain ⟨p5, q5, rfl, _⟩ := jws_open (RowAt.of_owns hJ5.1)
          have HEQ := Lib.hid (eqWs_any _ (.slice p7 m q7) E5 E w5 hJ5.at (HLA.out.below hb5).two.at (hE5.trans HEE.out.symm) (by have := congrArg List.length hE5; rw [List.length_map] at this; have := HLL4.out; omega))
          obtain ⟨m5, Hm5⟩ : ∃ m, Hid (E5.length = m) := ⟨_, rfl⟩
          rw [Hm5.out] at HEQ ⊢
          clear hb5 HS1 HLA HJ hE5 hJ5
          go_wp2_with fail
          refine (seq_at HJ5.out.l).mono ?_
          rintro e w' ⟨rfl, rfl⟩
          go_wp2_with fail
          refine HEQ.out.mono ?_
          rintro e w6 ⟨rfl, hb6⟩
          have hB6 := hB2.trans ((Below.step HJ5.out.b hb6).mono hB2.size)
          clear hb6
          go_wp2
          go_ret
          exact ⟨rfl, hB6⟩

end Go.Proofs.Ytdcplaonafmbjaa
