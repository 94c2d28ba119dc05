/- LiftSame: requests in their order leave on a disk what they leave as they stand: the statement in full, for all inputs, no condition. -/
import Derived.Test.YthkcnihmfeilgaaLifted
import Derived.Test.YthkcnihmfeilgaaLiftRun
import Derived.Test.YthkcnihmfeilgaaTwoD
import Derived.Test.YthkcnihmfeilgaaOpenPuts
import Derived.Test.YthkcnihmfeilgaaLawEnd
import Derived.ChangeShapes
import Derived.Deep.RegionHeldLaw
namespace Go.Proofs.Ythkcnihmfeilgaa
open Go.ChangeShapes Go.WideShapes Go.ChangeAt Go.RowKit

theorem light_leS {l : List (Int × ByteArray)} (h : lightB l = true) : l.length ≤ 60 := by unfold lightB at h; simp at h; exact h.1
theorem asks_leS (l : List (Int × ByteArray)) : (asksF l).length = l.length := by unfold asksF; rw [List.length_map]
theorem asks_okS (l : List (Int × ByteArray)) : ∀ x ∈ asksF l, RbOk 16 x := by
  intro x hx
  obtain ⟨y, _, rfl⟩ := List.mem_map.1 hx
  unfold askF
  by_cases e : pkN y.1 17 = 16
  · rw [if_pos e]; exact Or.inl rfl
  · rw [if_neg e]
    have h17 : pkN y.1 17 < 17 := pkN_lt y.1 17 (by omega) (by omega)
    exact Or.inr ⟨by show pkN y.1 17 < 16; omega, secS_len _⟩
theorem rqs_lt {E : List Rq} {L : List Rb} (h : E.map rab = L) {k : Nat} (hL : ∀ x ∈ L, RbOk k x) : ∀ x ∈ E, x.b = false → x.n < k := by
  intro x hx hb
  rcases hL (rab x) (by rw [← h]; exact List.mem_map.2 ⟨x, hx, rfl⟩) with h1 | h1
  · rw [show (rab x).2.2 = x.b from rfl, hb] at h1; cases h1
  · exact h1.1
theorem same_eq {l : List Rb} (hl : ∀ x ∈ l, RbOk 16 x) : (flushE (runE (freshE 16) (orderF l 0))).S = (flushE (runE (freshE 16) l)).S := by
  have h1 := run_order (k := 16) (by omega) l 0 (by omega) (freshE 16) (fresh_on 16) hl
  unfold orderF
  rw [flush_on ((fresh_on 16).run h1.2), flush_on ((fresh_on 16).run hl)]
  exact h1.1

set_option maxRecDepth 100000 in
set_option maxHeartbeats 4000000 in
theorem liftSame_raw (v : Value) (l : List (Int × ByteArray)) (h1 : l.length ≤ maxLen) (hx : ∀ x, x ∈ l → x.2.size ≤ maxLen) (w : World) (h : PutsAt w v l) :
    Calls Try.prog 7 #[v] w fun e w' => e = .returned (.bool true) ∧ Below w.heap.size w w' := by
  have H := Lib.hid h
  have HL := Lib.hid h1
  have HX := Lib.hid hx
  obtain ⟨N, HN⟩ : ∃ N, Hid (N = l.length) := ⟨_, rfl⟩
  obtain ⟨p, cp, hv, _⟩ := puts_open h N HN.out
  subst hv
  clear h h1 hx
  go_enter Try.func7, Try.ntmps7
  go_wp2_with fail
  refine (lifted_true _).mono ?_
  rintro e w1 ⟨rfl, hb1⟩
  go_wp2_with fail
  refine (written_true _).mono ?_
  rintro e w2 ⟨rfl, hb2⟩
  have HB2 : Hid (Below w.heap.size w w2) := Below.step hb1 hb2
  clear hb1 hb2
  go_wp2_with fail
  refine (light_any _ l _ (RowAt.below H.out HB2.out) HL.out HX.out).mono ?_
  obtain ⟨lb, HLB⟩ : ∃ lb, Hid (lightB l = lb) := ⟨_, rfl⟩
  rw [HLB.out]
  rintro e w3 ⟨rfl, hb3⟩
  have hB3 := Below.step HB2.out hb3
  clear hb3
  cases lb with
  | false =>
    go_wp2
    go_ret
    exact ⟨rfl, hB3⟩
  | true =>
    have hl60 := light_leS HLB.out
    have HB3 := Lib.hid hB3
    clear hB3
    go_wp2_with fail
    refine (new_any 16 16 rfl (by omega) (by omega) _).mono ?_
    rintro e w4 ⟨d, F1, rfl, hd4, hF1, hb4, _⟩
    obtain ⟨a, rfl⟩ := hd4.ptr
    have HD4 := Lib.hid hd4
    have HF1 := Lib.hid hF1
    have HB4 : Hid (Below w.heap.size w w4) := Below.step HB3.out hb4
    clear hd4 hF1 hb4
    go_wp2_with fail
    refine (new_any 16 16 rfl (by omega) (by omega) _).mono ?_
    rintro e w5 ⟨d2, F2, rfl, hd5, hF2, hb5, _⟩
    obtain ⟨b, rfl⟩ := hd5.ptr
    have HT5 : Hid (TwoD w (.pointer (some a)) (.pointer (some b)) (freshE 16) (freshE 16) F1 F2 w5) := by
      have hfin := HD4.out.fin
      refine ⟨HD4.out.below hb5, hd5, fun i hi => ⟨Nat.le_trans HB3.out.size (HF1.out i hi), fun h2 => ?_⟩, fun i hi => Nat.le_trans HB4.out.size (hF2 i hi), Below.step HB4.out hb5⟩
      have h3 := hfin i hi
      have h4 := hF2 i h2
      omega
    clear hd5 hF2 hb5
    go_wp2_with fail
    refine (asks_any _ l _ (RowAt.below H.out HT5.out.2.2.2.2) (by omega)).mono ?_
    rintro e w6 ⟨v6, rfl, ho6, hb6⟩
    have HT6 := Lib.hid (HT5.out.below hb6)
    obtain ⟨E6, hE6, h5, h6⟩ := ho6
    have HOKL := Lib.hid (asks_okS l)
    have HRUN := Lib.hid (run_any HT6.out.1 v6 E6 (RqRow.of_owns h5) (fun x hx => (h6 x hx).ok) (rqs_lt hE6 HOKL.out) (by omega) (by rw [rqs_len hE6, asks_leS]; omega) (by show ([] : List (Nat × List Int)).length < _; simp))
    rw [hE6] at HRUN
    clear hE6 h5 h6 hb6 HT5
    go_wp2_with fail
    refine HRUN.out.mono ?_
    rintro e w7 ⟨rfl, hdid⟩
    obtain ⟨F3, hT7⟩ := HT6.out.did hdid
    have HT7 := Lib.hid hT7
    clear hdid hT7 HT6
    go_wp2_with fail
    refine (asks_any _ l _ (RowAt.below H.out HT7.out.2.2.2.2) (by omega)).mono ?_
    rintro e w8 ⟨v8, rfl, ho8, hb8⟩
    have HT8 := Lib.hid (HT7.out.below hb8)
    obtain ⟨E, hE, h7, h8⟩ := ho8
    obtain ⟨q, cp8, rfl, hq⟩ := owns_slice h7
    obtain ⟨L, HLL⟩ : ∃ L, Hid (E.length = L) := ⟨_, rfl⟩
    have HQ : Hid (0 < L → ∃ g, q = some ⟨g, 0, none⟩ ∧ g < w8.heap.size ∧ w7.heap.size ≤ g ∧ ∀ (j : Nat) (x : Value), (rcells E)[j]? = some x → w8.cell? ⟨g, j, none⟩ = some x) := fun h0 => by
      obtain ⟨g, rfl, hg, hc⟩ := hq (by rw [HLL.out]; exact h0)
      exact ⟨g, rfl, (h7.lt g rfl).2, hg, hc⟩
    rw [HLL.out]
    have hL6 := rqs_len hE
    rw [HLL.out, asks_leS] at hL6
    have hL60 : L ≤ 60 := by omega
    have HFB : Hid (∀ i, F2 i → i < w7.heap.size) := HT7.out.2.1.fin
    have HE := Lib.hid hE
    have HN8 := Lib.hid h8
    have HOL : Hid (L = (asksF l).length) := by show _ = _; rw [asks_leS]; exact hL6
    have HSM := Lib.hid (same_eq HOKL.out)
    generalize runE (freshE 16) (orderF (asksF l) 0) = sd at *
    generalize asksF l = O at *
    have HST : Hid (Did (.pointer (some b)) (runE (freshE 16) (O.take 0)) 16 F2 w8 w8) := Did.start HT8.out.2.1 (Below.refl _ _)
    clear hE h7 h8 hq hb8 hL6 HT7 HRUN
    go_wp2
    go_loopw [50] (fun i wq => ∃ j : Nat, j ≤ L ∧ i = .int .i64 j ∧ Hid (Did (.pointer (some b)) (runE (freshE 16) (O.take j)) 16 F2 w8 wq)) (fun i _ => L - (intOf i).toNat)
    case atStart => exact ⟨0, Nat.zero_le _, rfl, HST⟩
    case round =>
      obtain ⟨j, hj, rfl, HR⟩ := hrel
      by_cases hlt : j < L
      · obtain ⟨g, rfl, hg, hgb, hc⟩ := HQ.out (by omega)
        have hkl : j < E.length := by rw [HLL.out]; exact hlt
        have hko : j < O.length := by rw [← HOL.out]; exact hlt
        obtain ⟨F', hd', hF', hk'⟩ := HR.out
        obtain ⟨e0, e1, e2⟩ := rcells_get E j hkl
        have hnF : ¬ F2 g := fun h => by have := HFB.out g h; omega
        have c0 := (hk'.cell hg hnF).trans (hc _ _ e0)
        have c2 := (hk'.cell hg hnF).trans (hc _ _ e2)
        have c1 := (hk'.cell hg hnF).trans (hc _ _ e1)
        have hrb : rab E[j] = O[j] := by
          have h1 : (E.map rab)[j]? = O[j]? := by rw [HE.out]
          rw [List.getElem?_map, List.getElem?_eq_getElem hkl, List.getElem?_eq_getElem hko] at h1
          simpa using h1
        have hxr := HOKL.out O[j] (List.getElem_mem hko)
        rw [← hrb] at hxr
        have HTK : Hid (runE (freshE 16) (O.take (j + 1)) = doE (runE (freshE 16) (O.take j)) (rab E[j])) := by
          show _ = _
          rw [← List.take_append_getElem hko, runE_snoc, hrb]
        have hx6 := HN8.out E[j] (List.getElem_mem hkl)
        have hgl : g < wr.heap.size := Nat.lt_of_lt_of_le hg hk'.size
        have hgn : ¬ g = wr.heap.size := by omega
        have hlt2 : (j : Int) < (L : Int) := by omega
        have hWj : (runE (freshE 16) (O.take j)).W.length < 1000000 := by
          have h1 := runE_W (freshE 16) (O.take j)
          have h2 := List.length_take_le j O
          have h3 : (freshE 16).W.length = 0 := rfl
          omega
        have HX6 := Lib.hid hx6
        have HXR := Lib.hid hxr
        have HD' := Lib.hid hd'
        have HF' := Lib.hid hF'
        have HK' := Lib.hid hk'
        have HWJ := Lib.hid hWj
        clear hc e0 e1 e2 hrb hx6 hd' hF' hk' hxr HR hWj
        obtain ⟨xb, Hxb⟩ : ∃ q, Hid (E[j].b = q) := ⟨E[j].b, rfl⟩
        obtain ⟨xn, Hxn⟩ : ∃ q, Hid (E[j].n = q) := ⟨E[j].n, rfl⟩
        rw [Hxb.out] at c2
        rw [Hxn.out] at c0
        cases xb with
        | true =>
          have hv6 : E[j].v = .slice none 0 0 := by
            rcases HX6.out with ⟨_, _, h, _⟩ | ⟨h, _⟩
            · exact h
            · rw [Hxb.out] at h; cases h
          rw [hv6] at c1
          have HDA := Lib.hid (HD'.out.below ((Below.refl _ _).alloc (Nat.le_refl _) (.cells #[.int .i64 (xn : Int), .slice none 0 0, .bool true] 50)))
          have HDO : Hid (doE (runE (freshE 16) (O.take j)) (rab E[j]) = flushE (runE (freshE 16) (O.take j))) := by
            show _ = _
            unfold doE
            rw [if_pos (show (rab E[j]).2.2 = true from Hxb.out)]
          clear hv6
          go_wp2_with fail
          refine (flush_at HDA.out).mono ?_
          rintro e wq ⟨rfl, hdid⟩
          have HNX : Hid (Did (.pointer (some b)) (runE (freshE 16) (O.take (j + 1))) 16 F2 w8 wq) := by
            show Did _ _ _ _ _ _
            rw [HTK.out, HDO.out]
            exact Did.trans (HK'.out.step (Keeps.alloc _)) HF'.out hdid
          clear hdid
          go_wp2
          go_roundw
          case rel => exact ⟨j + 1, by omega, by go_num, HNX⟩
          case measure => simp [intOf]; omega
        | false =>
          obtain ⟨gx, cx, cur, hxv, hgx1, hgx2, hD64, hhx, htx⟩ := rq_kept HX6.out Hxb.out HK'.out HFB.out
          rw [hxv] at c1
          have hxk : xn < 16 := by
            rcases HXR.out with h | ⟨h, _⟩
            · rw [show (rab E[j]).2.2 = E[j].b from rfl, Hxb.out] at h; cases h
            · rw [← Hxn.out]; exact h
          have hnF2 : ¬ F' gx := fun h => by
            rcases HF'.out gx h with h | h
            · have := HFB.out gx h; omega
            · omega
          have hgz : gx < (wr.alloc (.cells #[.int .i64 (xn : Int), .slice (some ⟨gx, 0, none⟩) 64 cx, .bool false] 50)).heap.size := by
            have := heap_lt hhx
            simp; omega
          have HDA := Lib.hid (HD'.out.below ((Below.refl _ _).alloc (Nat.le_refl _) (.cells #[.int .i64 (xn : Int), .slice (some ⟨gx, 0, none⟩) 64 cx, .bool false] 50)))
          have HWR := Lib.hid (write_at HDA.out xn hxk (.slice (some ⟨gx, 0, none⟩) 64 cx) E[j].D hD64 (fun w' hk => bytes_of_row hD64 ((hk.block gx hgz hnF2).trans (heap_alloc_keep hhx _)) htx) HWJ.out)
          have HDO : Hid (doE (runE (freshE 16) (O.take j)) (rab E[j]) = writeE (runE (freshE 16) (O.take j)) xn E[j].D) := by
            show _ = _
            unfold doE
            rw [if_neg (by rw [show (rab E[j]).2.2 = E[j].b from rfl, Hxb.out]; simp), ← Hxn.out]
            rfl
          clear hxv hgx1 hgx2 hD64 hhx htx hxk hnF2 hgz
          go_wp2_with fail
          refine HWR.out.mono ?_
          rintro e wq ⟨rfl, hdid⟩
          have HNX : Hid (Did (.pointer (some b)) (runE (freshE 16) (O.take (j + 1))) 16 F2 w8 wq) := by
            show Did _ _ _ _ _ _
            rw [HTK.out, HDO.out]
            exact Did.trans (HK'.out.step (Keeps.alloc _)) HF'.out hdid
          clear hdid
          go_wp2
          go_roundw
          case rel => exact ⟨j + 1, by omega, by go_num, HNX⟩
          case measure => simp [intOf]; omega
      · have HT : Hid (O.take j = O) := List.take_of_length_le (by rw [← HOL.out]; omega)
        rw [HT.out] at HR
        generalize runE (freshE 16) O = se at *
        obtain ⟨F4, hT9⟩ := HT8.out.swap.did HR.out
        have HT9 := Lib.hid hT9.swap
        clear hT9 HR HT8
        go_wp2_with fail
        refine (flush_at HT9.out.1).mono ?_
        rintro e w10 ⟨rfl, hdid⟩
        obtain ⟨F5, hT10⟩ := HT9.out.did hdid
        have HT10 := Lib.hid hT10
        clear hdid hT10 HT9
        go_wp2_with fail
        refine (flush_at HT10.out.2.1).mono ?_
        rintro e w11 ⟨rfl, hdid⟩
        obtain ⟨F6, hT11⟩ := HT10.out.swap.did hdid
        have HT11 := Lib.hid hT11.swap
        have HLS : Hid (0 < (flushE se).S.length) := by rw [hT11.1.lens.1]; exact (by omega : 0 < 64 * 16)
        clear hdid hT11 HT10
        obtain ⟨B, HBB⟩ : ∃ B, Hid (B = bytesS (flushE se).S) := ⟨_, rfl⟩
        generalize flushE sd = sd2 at *
        generalize flushE se = se2 at *
        have HTA : Hid (DiskAt w11.drew (.pointer (some a)) sd2 16 F5) := HT11.out.1.drew
        have HTB : Hid (DiskAt w11.drew (.pointer (some b)) se2 16 F6) := HT11.out.2.1.drew
        have hB11 : Below w.heap.size w w11.drew := HT11.out.2.2.2.2.drew
        go_wp2_with fail
        refine wp_region_noPanic ?_
        go_region_held_law (fun _ => True) (trivial)
          (first
            | (go_at_call_of 35 (Value.pointer (some a)); refine (image_at HTA.out).mono ?_; rintro e w12 ⟨v12, rfl, hv12⟩
               rw [HSM.out] at hv12
               have hc9 : (convert 26 9 v12).run Try.prog w12 = .ok (.string B) w12 := by rw [HBB.out]; exact conv_bytes hv12.at HLS.out
               have HV9 := Lib.hid hv12
               have HTC : Hid (DiskAt w12 (.pointer (some b)) se2 16 F6) := HTB.out.below hv12.below
               clear hv12)
            | (go_at_call_of 35 (Value.pointer (some b)); refine (image_at HTC.out).mono ?_; rintro e w13 ⟨v13, rfl, hv13⟩
               have hc10 : (convert 26 9 v13).run Try.prog w13 = .ok (.string B) w13 := by rw [HBB.out]; exact conv_bytes hv13.at HLS.out
               have hc11 : (convert 26 9 v12).run Try.prog w13 = .ok (.string B) w13 := by rw [HBB.out]; exact conv_bytes (RowAt.below HV9.out.at hv13.below) HLS.out
               have hB13 : Below w.heap.size w w13 := Below.step (Below.step hB11 HV9.out.below) hv13.below
               clear hv13))
        all_goals
          refine NoPanic.normal ?_
          go_wp2
          go_ret
          exact ⟨rfl, hB13⟩

-- CLOSING

set_option maxRecDepth 100000 in
theorem liftSame_lifted (os : Os) (started : os.Started) (H : Type) (enc' : TypeId × Value → H) :
    ReturnsInHanded {} Try.checked os 7 .any (Rows.liftSameSpec.pre6 enc' Try.prog Try.f7 Rows.liftSameRow.domain false) (Rows.liftSameSpec.post enc' Try.prog Try.f7 false true false false) := by
  refine returnsInHanded_of_change (C := Try.checked) Try.own started (by kernel_rfl) Try.func7
    (ChangeSpec.witness6 (enc := enc') (C := Try.checked) false ⟨#[], #[(.slice none 0 0)], []⟩ 8 (by kernel_rfl) (by kernel_rfl) (by kernel_rfl) (by kernel_rfl)) ?_
  intro W base args ds gs before hval0 hW hcnd _
  have hval : ∀ (j : Nat) t v, Try.f7.params[j]? = some t → args[j]? = some v → Value.okWide Try.prog W .any base t v := hval0
  have hW' := hW
  obtain ⟨p, q, hA0, hV, rfl, hfz, hnd⟩ := hW
  have hA : DataW.TrodAll enc' Try.prog W 0 (fun _ => true) true Try.f7.params.toList args.toList ds p := hA0
  rw [Try.params7] at hA hval
  obtain ⟨v0, d0, rfl, rfl, h0⟩ := trodAll_one hA
  obtain ⟨rfl, rfl⟩ := trodVars_none hV
  obtain ⟨l0, hI0, hM0, hx0⟩ := open_putsAt (P := Try.prog) Try.underlying42 Try.underlying55 (by kernel_rfl) rfl rfl (by kernel_rfl) (by kernel_rfl) (by kernel_rfl) (by kernel_rfl) (hval 0 42 v0 rfl rfl) h0
  clear hA0 hval0
  refine (liftSame_raw _ l0 hM0 hx0 W hI0).mono fun e W' ⟨he, hw⟩ => ?_
  subst he
  exact ⟨_, rfl, law_post 4 Try.laidOut (by kernel_rfl) rfl rfl Try.underlying4 hW' rfl hw⟩

theorem liftSame_holds : Rows.LiftSameSaid :=
  OpenClaim.holds_of_wide 7 Try.f7 rfl rfl rfl rfl rfl rfl rfl ⟨rfl, rfl, rfl, rfl, rfl⟩ rfl rfl rfl rfl rfl (by kernel_rfl) Try.func7 (by kernel_rfl)
    (of_decide_eq_true (by kernel_rfl)) (by unfold Func.isWrapper; first | (rw [if_pos (by decide +kernel)]; kernel_rfl) | (rw [if_neg (by decide +kernel)]; exact ⟨rfl, rfl⟩))
    (fun os started H enc _ => liftSame_lifted os started H enc)

end Go.Proofs.Ythkcnihmfeilgaa
