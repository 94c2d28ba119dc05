/- The fact told. -/
import Derived.Test.YtdcplaonafmbjaaJLaw
namespace Go.Proofs.Ytdcplaonafmbjaa
open Go.RowKit
attribute [local go_sem ↓] Go.wp_at_zero Go.wp_at_succ

def xB : ByteArray := { data := #[120] }
def jB : ByteArray := { data := #[106] }
theorem secS_bytes (s : ByteArray) : ByteL (secS s) := by
  intro z hz
  unfold secS bI at hz
  rcases List.mem_append.1 hz with hz | hz
  · obtain ⟨b, _, rfl⟩ := List.mem_map.1 (List.mem_of_mem_take hz)
    have := b.toNat_lt
    omega
  · rw [List.mem_replicate] at hz; omega
def tL : List Wr := [(10, secS xB)]
theorem tL_good : GoodL tL ∧ LB tL := by
  refine ⟨⟨fun x hx => ?_, by simp [tL], by simp [tL]⟩, fun x hx => ?_⟩
  · unfold tL at hx; rw [List.mem_singleton] at hx; subst hx; exact ⟨by show 10 ≤ 10; omega, by show 10 < 20; omega⟩
  · unfold tL at hx; rw [List.mem_singleton] at hx; subst hx; exact ⟨secS_len _, secS_bytes _⟩
def tSt : Dk := runE (freshE 20) (opsC 0 tL)
theorem tSt_all : Rest tSt (aftF (List.replicate 640 0) tL) 1 tL ∧ dat tSt.S = List.replicate 640 0 := by
  have h := commit_path fresh_rest (L := tL) (by simp [tL]) tL_good.1 tL_good.2 ⟨by omega, by omega⟩
  exact ⟨h.2.1, h.2.2⟩
theorem sec_z (k n : Nat) (h : 64 * n + 64 ≤ k) : sec (List.replicate k 0) n = secS { data := #[] } := by
  unfold sec
  rw [List.drop_replicate, List.take_replicate, Nat.min_eq_left (by omega)]
  rfl
/-- Behind the crash of nothing that waits. -/
theorem tSt_crash : sec (crashE tSt []).N 10 = secS { data := #[] } ∧ ByteL (crashE tSt []).N ∧ GoodL (openL (crashE tSt []).N) ∧ sec (openE (crashE tSt [])).N 10 = secS xB ∧ (openE (crashE tSt [])).N.length = 64 * 20 ∧ (openE (crashE tSt [])).W.length ≤ 100 ∧ (crashE tSt []).W.length < 900000 := by
  obtain ⟨h1, h2⟩ := tSt_all
  have hm := h1.ok.crash []
  have hg := h1.good _ hm
  have hS : crashS tSt.S tSt.W [] = tSt.S := crashS_none _ _
  have hlive := live_dkw hm
  have hE : openE (crashE tSt []) = runE (liveE (crashS tSt.S tSt.W [])) (emit (openL (crashS tSt.S tSt.W []))) := rfl
  have hN : (openE (crashE tSt [])).N = foldN (crashS tSt.S tSt.W []) (openL (crashS tSt.S tSt.W [])) := by
    rw [hE]
    exact (run_emit hlive.on (good_wr hg.1 (openL_LB hm.len hm.b))).1
  have hl : (openE (crashE tSt [])).N.length = 64 * 20 := by
    rw [hN]; exact foldN_len _ hm.len (good_wr hg.1 (openL_LB hm.len hm.b))
  refine ⟨?_, hm.b, hg.1, ?_, hl, ?_, Nat.lt_of_le_of_lt (Nat.le_refl 0) (by omega)⟩
  · show sec (crashS tSt.S tSt.W []) 10 = _
    rw [hS]
    have := sec_dat tSt.S 0
    rw [h2] at this
    rw [← this]
    exact sec_z 640 0 (by omega)
  · have e : dat (openE (crashE tSt [])).N = aftF (List.replicate 640 0) tL := by
      rw [hN]; exact hg.2
    have := sec_dat (openE (crashE tSt [])).N 0
    rw [← this, e]
    show sec (putS (List.replicate 640 0) (10 - 10) (secS xB)) 0 = _
    exact sec_put_same (k := 10) List.length_replicate (by omega) (secS_len _)
  · rw [hE]
    have h3 := runE_W (liveE (crashS tSt.S tSt.W [])) (emit (openL (crashS tSt.S tSt.W [])))
    have h4 := hg.1.l
    have h5 : (emit (openL (crashS tSt.S tSt.W []))).length = (openL (crashS tSt.S tSt.W [])).length := by unfold emit; rw [List.length_map]
    have h6 : (liveE (crashS tSt.S tSt.W [])).W.length = 0 := rfl
    omega
theorem tSt_W : tSt.W.length ≤ 20 := by
  have h1 := runE_W (freshE 20) (opsC 0 tL)
  have h2 := opsC_len 0 tL_good.1
  have h3 : (freshE 20).W.length = 0 := rfl
  unfold tSt
  omega

set_option maxRecDepth 100000 in
set_option maxHeartbeats 8000000 in
theorem told_true (w : World) : Calls Try.prog 7 #[] w fun e w' => e = .returned (.bool true) ∧ Below w.heap.size w w' := by
  go_enter Try.func7, Try.ntmps7
  go_wp2_with fail
  refine (new_any 20 20 rfl (by omega) (by omega) _).mono ?_
  rintro e w1 ⟨d, F0, rfl, hd, hF0, hb0, _⟩
  obtain ⟨a, rfl⟩ := hd.ptr
  have HO := Lib.hid (open_law hd hF0 hb0 fresh_dkw.bn (by rw [zeros_open]; exact goodL_nil) (by simp [freshE]))
  rw [open_fresh, seq_fresh] at HO
  clear hd hF0 hb0
  go_wp2_with fail
  refine HO.out.mono ?_
  rintro e w2 ⟨gl, rfl, hj, _, _⟩
  have HJ := Lib.hid hj
  clear hj HO
  go_wp2_with fail
  refine (sector_any xB _).mono ?_
  rintro e w3 ⟨v3, rfl, g3, cap3, cur3, rfl, hg3, hh3, ht3, hb3⟩
  rw [secS_len]
  rw [secS_len] at hg3 ht3
  have hj3 : JwsTwo (w3.alloc (.cells #[.int .i64 10, .slice (some ⟨g3, 0, none⟩) 64 cap3] 44)) w2.heap.size w2.heap.size (.slice (some ⟨w3.heap.size, 0, none⟩) 1 1) [⟨10, .slice (some ⟨g3, 0, none⟩) 64 cap3, secS xB⟩] :=
    ⟨⟨rfl, Or.inr ⟨w3.heap.size, 1, _, rfl, hb3.size, heap_alloc_new w3 _, Nat.le_refl _, by unfold maxLen; omega, rfl, rfl⟩⟩, fun x hx => by
      rw [List.mem_singleton] at hx
      subst hx
      exact ⟨by show 10 < 256; omega, secS_len _, g3, cap3, cur3, rfl, hg3, heap_alloc_keep hh3 _, ht3⟩⟩
  have HC := Lib.hid (commit_law HJ.out (hb3.alloc hb3.size (.cells #[.int .i64 10, .slice (some ⟨g3, 0, none⟩) 64 cap3] 44)) hj3 tL_good.1 ⟨by omega, by omega⟩ (by simp [freshE]))
  clear hj3 hg3 hh3 ht3 hb3
  go_wp2_with fail
  refine HC.out.mono ?_
  rintro e w4 ⟨rfl, hj4⟩
  have HJ4 : Hid (JAt w a gl tSt 1 w4) := hj4
  clear hj4 HC HJ
  go_wp2_with fail
  refine (jat_crash HJ4.out _ [] (nil_bools w) (by simp)).mono ?_
  rintro e w5 ⟨rfl, hj5⟩
  have HJ5 := Lib.hid hj5
  have HT := Lib.hid tSt_crash
  clear hj5 HJ4
  generalize crashE tSt [] = s5 at HJ5 HT
  obtain ⟨B, HBB⟩ : ∃ B, Hid (B = bytesS (secS { data := #[] })) := ⟨_, rfl⟩
  go_wp2_with fail
  refine wp_region_noPanic ?_
  go_region_held_law (fun w' => True)
    (trivial)
    (first
      | (go_at_call 33; refine (jat_at HJ5.out.drew 10 (by omega)).mono ?_; rintro e w6 ⟨v6, rfl, hv6⟩
         rw [HT.out.1] at hv6
         have hc6 : (convert 42 9 v6).run Try.prog w6 = .ok (.string B) w6 := by rw [HBB.out]; exact conv_bytes hv6.at (by rw [secS_len]; omega)
         have hj6 : Hid (JAt w a gl s5 1 w6) := HJ5.out.drew.below hv6.below
         have hv6h := Lib.hid hv6.at
         clear hv6)
      | (go_at_call 28; refine (sector_any { data := #[] } w6).mono ?_; rintro e w7 ⟨v7, rfl, hv7⟩
         have hc7 : (convert 42 9 v7).run Try.prog w7 = .ok (.string B) w7 := by rw [HBB.out]; exact conv_bytes hv7.at (by rw [secS_len]; omega)
         have hc8 : (convert 42 9 v6).run Try.prog w7 = .ok (.string B) w7 := by rw [HBB.out]; exact conv_bytes (RowAt.below hv6h.out hv7.below) (by rw [secS_len]; omega)
         have HJ7 : Hid (JAt w a gl s5 1 w7) := hj6.out.below hv7.below
         clear hv7))
  all_goals
    refine NoPanic.normal ?_
    clear hj6 hv6h hc6 hc7 hc8
    have HBY := Lib.hid HT.out.2.1
    have HGO := Lib.hid HT.out.2.2.1
    have HT2 := Lib.hid HT.out.2.2.2.1
    have hlog : Hid (w7.heap[gl]? = some (.cells (logC a 1) 74 (0, 0))) := HJ7.out.log
    have HOP := Lib.hid (jat_open HJ7.out HBY.out HGO.out HT.out.2.2.2.2.2.2)
    clear HT
    go_wp2_with fail
    refine HOP.out.mono ?_
    rintro e w8 ⟨gl2, rfl, hj8, hlk⟩
    have HJ8 := Lib.hid hj8
    have HL8 : Hid (w8.heap[gl]? = some (.cells (logC a 1) 74 (0, 0))) := hlk.trans hlog.out
    clear hj8 hlk hlog HOP HJ7
    obtain ⟨X, HX⟩ : ∃ X, Hid (X = bytesS (secS xB)) := ⟨_, rfl⟩
    go_wp2_with fail
    obtain ⟨F9, hD9, _, _, _, _, hB9⟩ := HJ8.out
    have HD9 := Lib.hid hD9
    have HB9 := Lib.hid hB9
    clear hD9 hB9
    refine wp_region_noPanic ?_
    go_region_held_law (fun w' => True)
      (trivial)
      (first
        | (go_at_call 33; refine (jat_at HJ8.out.drew 10 (by omega)).mono ?_; rintro e w9 ⟨v9, rfl, hv9⟩
           rw [HT2.out] at hv9
           have hc9 : (convert 42 9 v9).run Try.prog w9 = .ok (.string X) w9 := by rw [HX.out]; exact conv_bytes hv9.at (by rw [secS_len]; omega)
           have hl9 : Hid (w9.heap[gl]? = some (.cells (logC a 1) 74 (0, 0))) := (hv9.below.block gl (heap_lt HL8.out)).trans HL8.out
           have HBW9 : Hid (Below w.heap.size w w9) := Below.step HB9.out.drew hv9.below
           have hv9h := Lib.hid hv9.at
           clear hv9)
        | (go_at_call 28; refine (sector_any xB w9).mono ?_; rintro e w10 ⟨v10, rfl, hv10⟩
           have hc10 : (convert 42 9 v10).run Try.prog w10 = .ok (.string X) w10 := by rw [HX.out]; exact conv_bytes hv10.at (by rw [secS_len]; omega)
           have hc11 : (convert 42 9 v9).run Try.prog w10 = .ok (.string X) w10 := by rw [HX.out]; exact conv_bytes (RowAt.below hv9h.out hv10.below) (by rw [secS_len]; omega)
           have hl10 : Hid (w10.heap[gl]? = some (.cells (logC a 1) 74 (0, 0))) := (hv10.below.block gl (heap_lt hl9.out)).trans hl9.out
           have HBW10 : Hid (Below w.heap.size w w10) := Below.step HBW9.out hv10.below
           clear hv10)
        | (go_at_call 16; refine (seq_at hl10.out).mono ?_; rintro e w' ⟨rfl, rfl⟩)
        | (go_at_call 34; refine (room_at hl10.out).mono ?_; rintro e w' ⟨rfl, rfl⟩))
    all_goals
      refine NoPanic.normal ?_
      go_wp2
      go_ret
      exact ⟨rfl, HBW10.out⟩

end Go.Proofs.Ytdcplaonafmbjaa
