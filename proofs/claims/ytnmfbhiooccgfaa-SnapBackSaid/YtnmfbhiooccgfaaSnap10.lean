/- Unpack, walked. -/
import Derived.Test.YtnmfbhiooccgfaaSnap9
namespace Go.Proofs.Ytnmfbhiooccgfaa
open Go.RowKit

set_option maxRecDepth 100000 in
set_option maxHeartbeats 2000000 in
theorem unpF_len (v : Value) (bs : List Int) (w : World) (h : BytesAt w v bs) (hn : bs.length ≠ 192) (hl : bs.length ≤ 1000000) (Z0 : Array Value) (HZ0 : Hid (Z0 = encF zeroF)) :
    Calls Try.prog 28 #[v] w fun e w' => e = .returned (.tuple #[.agg Z0, .int .i64 3]) ∧ Below w.heap.size w w' := by
  have HZ : Hid (∀ w, (zeroValue 42).run Try.prog w = .ok (.agg Z0) w) := by rw [HZ0.out]; exact forZ
  have HZS : Hid (Z0.size = 192) := by rw [HZ0.out]; exact encF_size _
  have HZ1 : Hid (Z0.all (·.oneCell') = true) := by rw [HZ0.out]; exact encF_one _
  obtain ⟨N, HN⟩ : ∃ N, Hid (N = bs.length) := ⟨_, rfl⟩
  obtain ⟨q, cp, hu⟩ : ∃ p cp, v = .slice p N cp := by
    rw [HN.out]
    obtain ⟨_, ⟨h0, a0, c0, rfl⟩ | ⟨g, o, cap, rfl, hc⟩⟩ := h
    · exact ⟨a0, c0, by rw [h0]⟩
    · exact ⟨_, cap, rfl⟩
  subst hu
  rw [← HN.out] at hl hn
  have hne : ((N : Int) != 192) = true := by rw [bne_iff_ne]; omega
  clear h hn
  have hz := HZ.out
  go_enter Try.func28, Try.ntmps28
  go_wp2_with (first
    | (refine wpList_alloc_row rfl 42 rfl Z0 HZ.out ?_)
    | (refine wpList_store_row rfl 42 (.tmp 2) (.tmp 12) rfl w.heap.size Z0 rfl rfl 42 Z0 (heap_alloc_new w _) (by rw [HZS.out]; exact forI) rfl HZ1.out ?_))
  refine bodyPost_ret (results_two rfl _ _ w.heap.size 42 Z0 (0, 0) _ (.int .i64 3) rfl rfl (setRow_heap _ _ _ _ _ _ (heap_alloc_new w _)) forT rfl (by rw [HZS.out]; exact forI)) rfl ⟨rfl, ?_⟩
  exact Below.setRow ((Below.refl _ _).alloc (Nat.le_refl _) _) (Nat.le_refl _) _

theorem bytes_cell {w : World} {v : Value} {bs : List Int} (h : BytesAt w v bs) (h0 : 0 < bs.length) : ∃ g o c, v = .slice (some ⟨g, o, none⟩) bs.length c ∧ g < w.heap.size ∧ ∀ j, j < bs.length → w.cell? ⟨g, o + j, none⟩ = some (.int .u8 (bs.getD j 0)) := by
  obtain ⟨_, ⟨h1, _⟩ | ⟨g, o, c, rfl, hc⟩⟩ := h
  · omega
  · have key : ∀ j, j < bs.length → w.cell? ⟨g, o + j, none⟩ = some (.int .u8 (bs.getD j 0)) := fun j hj => by
      rw [hc j _ (u8s_get bs j hj)]
      simp [hj]
    exact ⟨g, o, c, rfl, block_lt_of_cell (key 0 h0), key⟩

set_option maxRecDepth 100000 in
set_option maxHeartbeats 8000000 in
theorem unpF_go (g o cp : Nat) (bs : List Int) (w : World) (hgw : g < w.heap.size) (HC : Hid (∀ j, j < 192 → w.cell? ⟨g, o + j, none⟩ = some (.int .u8 (bs.getD j 0)))) (HL : Hid (bs.length = 192)) (HU : Hid (U8s bs))
    (HBA : Hid (BytesAt w (.slice (some ⟨g, o, none⟩) 192 cp) bs)) (hcp : 192 ≤ cp) (Z0 X : Array Value) (c : Int) (HZ0 : Hid (Z0 = encF zeroF)) (HX : Hid (X = encF (unpF bs).1)) (Hc : Hid (c = (unpF bs).2)) :
    Calls Try.prog 28 #[.slice (some ⟨g, o, none⟩) 192 cp] w fun e w' => e = .returned (.tuple #[.agg X, .int .i64 c]) ∧ Below w.heap.size w w' := by
  have HZ : Hid (∀ w, (zeroValue 42).run Try.prog w = .ok (.agg Z0) w) := by rw [HZ0.out]; exact forZ
  have HZS : Hid (Z0.size = 192) := by rw [HZ0.out]; exact encF_size _
  have HZ1 : Hid (Z0.all (·.oneCell') = true) := by rw [HZ0.out]; exact encF_one _
  go_enter Try.func28, Try.ntmps28
  go_wp2_with (first
    | (refine wpList_alloc_row rfl 42 rfl Z0 HZ.out ?_))
  go_loopw [13] (fun i wr => ∃ k : Nat, k ≤ 4 ∧ i = .int .i64 k ∧ Hid (wr.heap[w.heap.size]? = some (.cells Z0 42 (0, 0))) ∧ Hid (wr.heap[w.heap.size + 1]? = some (.cells (encF (upF bs k 0)) 42 (0, 0))) ∧ Below w.heap.size w wr) (fun i _ => 4 - (intOf i).toNat)
  case atStart =>
    refine ⟨0, by omega, rfl, heap_alloc2_old w _ _, ?_, ((Below.refl _ _).alloc (Nat.le_refl _) _).alloc (by simp) _⟩
    rw [upF_0, ← HZ0.out]
    exact heap_alloc2_new w _ _
  case round =>
    obtain ⟨k, hk, rfl, HR, HF, HB⟩ := hrel
    by_cases hlt : k < 4
    · have hlt2 : (k : Int) < 4 := by omega
      have hk0 : (0 : Int) ≤ (k : Int) := by omega
      obtain ⟨wo, hwo⟩ : ∃ wo : World, wo = wr := ⟨_, rfl⟩
      subst hwo
      go_wp2
      go_loopw [16] (fun i wr => ∃ j : Nat, j ≤ 16 ∧ i = .int .i64 j ∧ Hid (wr.heap[w.heap.size]? = some (.cells Z0 42 (0, 0))) ∧ Hid (wr.heap[w.heap.size + 1]? = some (.cells (encF (upF bs k j)) 42 (0, 0))) ∧ Below w.heap.size w wr) (fun i _ => 16 - (intOf i).toNat)
      case atStart => exact ⟨0, by omega, rfl, HR, HF, HB⟩
      case round =>
        obtain ⟨j, hj, rfl, HR', HF', HB'⟩ := hrel
        by_cases hjl : j < 16
        · have hj2 : (j : Int) < 16 := by omega
          have hj0 : (0 : Int) ≤ (j : Int) := by omega
          obtain ⟨x, Hx⟩ : ∃ x, Hid (x = bs.getD (k * 16 + j) 0) := ⟨_, rfl⟩
          have hx1 := U8s_get HU.out (k * 16 + j)
          rw [← Hx.out] at hx1
          obtain ⟨hx0, hx255⟩ := hx1
          have cb : wr.cell? ⟨g, o + (16 * k + j), none⟩ = some (.int .u8 x) := by
            rw [HB'.cell (p := ⟨g, o + (16 * k + j), none⟩) hgw, Hx.out, show 16 * k + j = k * 16 + j by omega]
            exact HC.out _ (by omega)
          have cf : wr.cell? ⟨w.heap.size + 1, k * 48 + j, none⟩ = some (.int .i64 0) := by
            rw [cell_of_row _ _ _ _ _ _ HF'.out, encF_get _ k j hlt (by omega)]
            unfold cellF upF
            simp [hjl]
          have ff : wr.frozen? ⟨w.heap.size + 1, k * 48 + j, none⟩ = false := frozen_of_row _ _ _ _ _ HF'.out
          have p1 : IntKind.i64.wrap (16 * (k : Int)) = 16 * (k : Int) := IntWalk.i64_in _ (by omega)
          have p2 : IntKind.i64.wrap (16 * (k : Int) + (j : Int)) = 16 * (k : Int) + (j : Int) := IntWalk.i64_in _ (by omega)
          have p3 : (16 * (k : Int) + (j : Int)).toNat = 16 * k + j := by omega
          have p4 : (0 : Int) ≤ 16 * (k : Int) + (j : Int) := by omega
          have p5 : 16 * (k : Int) + (j : Int) < 192 := by omega
          go_wp2
          go_still_tail 13, (by kernel_rfl)
          go_wp2
          go_roundw
          case rel =>
            refine ⟨j + 1, by omega, by go_num, (heap_setCell_other _ _ _ _ (by simp)).trans HR'.out, ?_, ?_⟩
            · rw [← upF_node bs k j hlt hjl, ← Hx.out]
              exact heap_setCell_same _ _ _ _ _ _ HF'.out
            · exact HB'.drew.setCell (by simp) _
          case measure => simp [intOf]; omega
        · obtain rfl : j = 16 := by omega
          have p1 : IntKind.i64.wrap (32 * (k : Int)) = 32 * (k : Int) := IntWalk.i64_in _ (by omega)
          have p2 : IntKind.i64.wrap (64 + 32 * (k : Int)) = 64 + 32 * (k : Int) := IntWalk.i64_in _ (by omega)
          have p3 : (64 + 32 * (k : Int)).toNat = 64 + 32 * k := by omega
          have p4 : (0 : Int) ≤ 64 + 32 * (k : Int) := by omega
          have p5 : 64 + 32 * (k : Int) ≤ 192 := by omega
          have p6 : 64 + 32 * k ≠ cp := by omega
          go_wp2
          go_still_tail 9, (by kernel_rfl)
          go_wp2_with fail
          have hlen : (u8s ((bs.drop (64 + 32 * k)).take 32)).length = 32 := by rw [u8s_len, List.length_take, List.length_drop, HL.out]; omega
          have hsrc : ∀ (j : Nat) (v : Value), (u8s ((bs.drop (64 + 32 * k)).take 32))[j]? = some v → wr.drew.cell? ((⟨g, o + (64 + 32 * k), none⟩ : Addr).add j) = some v := fun j v hv => by
            have hj := (List.getElem?_eq_some_iff.1 hv).1
            have hadd : (⟨g, o + (64 + 32 * k), none⟩ : Addr).add j = ⟨g, o + (64 + 32 * k) + j, none⟩ := by unfold Addr.add; split <;> simp_all
            rw [hadd, show o + (64 + 32 * k) + j = o + (64 + 32 * k + j) by omega]
            refine Eq.trans (HB'.cell (p := ⟨g, o + (64 + 32 * k + j), none⟩) hgw) ?_
            rw [HC.out _ (by omega)]
            unfold u8s at hv
            rw [List.getElem?_map, List.getElem?_take, if_pos (by omega), List.getElem?_drop] at hv
            rw [List.getD_eq_getElem?_getD]
            cases hq : bs[64 + 32 * k + j]? with
            | none => rw [hq] at hv; cases hv
            | some x => rw [hq] at hv; simpa using hv
          rw [run_copy_row (P := Try.prog) wr.drew 52 52 _ 5 (w.heap.size + 1) (k * 48 + 16) 32 32 ⟨g, o + (64 + 32 * k), none⟩ (192 - (64 + 32 * k)) (cp - (64 + 32 * k)) (encF (upF bs k 16)) 42 (u8s ((bs.drop (64 + 32 * k)).take 32)) u8sT (by kernel_rfl) HF'.out (by rw [hlen]; show 32 = min _ _; omega) hsrc (by rw [hlen, encF_size]; omega) (u8s_one _)]
          rw [upF_set bs HU.out HL.out k hlt, hlen]
          have HR4 : Hid ((wr.drew.setRow (w.heap.size + 1) (encF (upF bs (k + 1) 0))).heap[w.heap.size]? = some (.cells Z0 42 (0, 0))) := heap_setRow_keep (w := wr.drew) HR'.out _ _ (by omega)
          have HF4 : Hid ((wr.drew.setRow (w.heap.size + 1) (encF (upF bs (k + 1) 0))).heap[w.heap.size + 1]? = some (.cells (encF (upF bs (k + 1) 0)) 42 (0, 0))) := setRow_heap wr.drew _ _ _ _ _ HF'.out
          have HB4 : Below w.heap.size w (wr.drew.setRow (w.heap.size + 1) (encF (upF bs (k + 1) 0))) := Below.setRow HB'.drew (by omega) _
          clear hsrc hlen p1 p2 p3 p4 p5 p6
          go_wp2
          go_roundw
          case rel => exact ⟨k + 1, by omega, by go_num, HR4, HF4, HB4⟩
          case measure => simp [intOf]; omega
    · obtain rfl : k = 4 := by omega
      obtain ⟨F, HF0⟩ : ∃ F, Hid (F = encF (foB bs)) := ⟨_, rfl⟩
      have HF1 : Hid (wr.heap[w.heap.size + 1]? = some (.cells F 42 (0, 0))) := by rw [HF0.out, ← upF_4]; exact HF.out
      have HFS : Hid (F.size = 192) := by rw [HF0.out]; exact encF_size _
      have HFO : Hid (F.all (·.oneCell') = true) := by rw [HF0.out]; exact encF_one _
      clear HF
      have hz := HZ.out
      by_cases hr : rightF (foB bs) = 0
      · have hU : unpF bs = (foB bs, 0) := by unfold unpF; rw [if_pos ⟨HL.out, hr⟩]
        have eX : F = X := by rw [HX.out, hU, HF0.out]
        have ec : c = 0 := by rw [Hc.out, hU]
        have HPK : Hid (∀ W : World, Calls Try.prog 29 #[.agg F] W (PackFRes (foB bs) W)) := fun W => by rw [HF0.out]; exact packF_good _ hr W
        subst eX ec
        clear hU hr
        go_wp2_with (refine wpList_load_row rfl 42 (.tmp 4) rfl (w.heap.size + 1) rfl 42 F (0, 0) _ HF1.out forT rfl (by rw [HFS.out]; exact forI) ?_)
        refine (HPK.out _).mono ?_
        rintro e w2 ⟨u, rfl, hown, hb2⟩
        have HUB : Hid (BytesAt w2 u bs) := by
          have := RowAt.of_owns hown
          rw [pack_foB HU.out HL.out] at this
          rw [← HL.out] at this
          exact this
        have HF2 : Hid (w2.heap[w.heap.size + 1]? = some (.cells F 42 (0, 0))) := heap_below hb2 HF1.out
        have HR2 : Hid (w2.heap[w.heap.size]? = some (.cells Z0 42 (0, 0))) := heap_below hb2 HR.out
        have hB2 := Below.step HB hb2
        have HBB : Hid (BytesAt w2 (.slice (some ⟨g, o, none⟩) 192 cp) bs) := RowAt.below HBA.out hB2
        clear hown hb2 HF1 HR HB
        go_wp2_with fail
        refine (equalBytes_dec _ _ _ _ _ HUB.out HBB.out rfl (by rw [HL.out]; omega)).mono ?_
        have HEQ : Hid (eqB bs bs = true) := by show _ = _; unfold eqB; simp
        rw [HEQ.out]
        rintro e w3 ⟨rfl, hb3⟩
        have HF3 : Hid (w3.heap[w.heap.size + 1]? = some (.cells F 42 (0, 0))) := heap_below hb3 HF2.out
        have HR3 : Hid (w3.heap[w.heap.size]? = some (.cells Z0 42 (0, 0))) := heap_below hb3 HR2.out
        have hB3 := Below.step hB2 hb3
        clear hb3 HF2 HR2 hB2
        go_wp2_with (first
          | (refine wpList_load_row rfl 42 (.tmp 4) rfl (w.heap.size + 1) rfl 42 F (0, 0) _ HF3.out forT rfl (by rw [HFS.out]; exact forI) ?_)
          | (refine wpList_store_row rfl 42 (.tmp 2) (.tmp 58) rfl w.heap.size F rfl rfl 42 Z0 HR3.out (by rw [HFS.out]; exact forI) (by rw [HFS.out, HZS.out]) HFO.out ?_))
        refine bodyPost_ret (results_two rfl _ _ w.heap.size 42 F (0, 0) _ (.int .i64 0) rfl rfl (setRow_heap _ _ _ _ _ _ HR3.out) forT rfl (by rw [HFS.out]; exact forI)) rfl ⟨rfl, ?_⟩
        exact Below.setRow hB3 (Nat.le_refl _) _
      · have hU : unpF bs = (zeroF, 3) := by unfold unpF; rw [if_neg fun h => hr h.2]
        have eX : Z0 = X := by rw [HX.out, hU, HZ0.out]
        have ec : c = 3 := by rw [Hc.out, hU]
        obtain ⟨r, Hr⟩ : ∃ r, Hid (r = rightF (foB bs)) := ⟨_, rfl⟩
        have hr1 : (r == 0) = false := by rw [Hr.out]; simpa using hr
        have hr2 : (r != 0) = true := by rw [Hr.out]; simpa using hr
        have HPK : Hid (∀ W : World, Calls Try.prog 29 #[.agg F] W fun e w' => e = .returned (.tuple #[.slice none 0 0, .int .i64 r]) ∧ Below W.heap.size W w') := fun W => packF_bad _ F r HF0 Hr hr2 W
        subst eX ec
        clear hU hr
        go_wp2_with (refine wpList_load_row rfl 42 (.tmp 4) rfl (w.heap.size + 1) rfl 42 F (0, 0) _ HF1.out forT rfl (by rw [HFS.out]; exact forI) ?_)
        refine (HPK.out _).mono ?_
        rintro e w2 ⟨rfl, hb2⟩
        have HR2 : Hid (w2.heap[w.heap.size]? = some (.cells Z0 42 (0, 0))) := heap_below hb2 HR.out
        have hB2 := Below.step HB hb2
        clear hb2 HF1 HR HB
        go_wp2_with (first
          | (refine wpList_store_row rfl 42 (.tmp 2) (.tmp 57) rfl w.heap.size Z0 rfl rfl 42 Z0 HR2.out (by rw [HZS.out]; exact forI) rfl HZ1.out ?_))
        refine bodyPost_ret (results_two rfl _ _ w.heap.size 42 Z0 (0, 0) _ (.int .i64 3) rfl rfl (setRow_heap _ _ _ _ _ _ HR2.out) forT rfl (by rw [HZS.out]; exact forI)) rfl ⟨rfl, ?_⟩
        exact Below.setRow hB2 (Nat.le_refl _) _

/-- A slice of bytes whose capacity reaches. -/
def Roomy (v : Value) (n : Nat) : Prop := ∀ p l c, v = .slice p l c → n ≤ c
theorem unpF_any (v : Value) (bs : List Int) (w : World) (h : BytesAt w v bs) (hu : U8s bs) (hr : Roomy v bs.length) (hl : bs.length ≤ 1000000) :
    Calls Try.prog 28 #[v] w fun e w' => e = .returned (.tuple #[.agg (encF (unpF bs).1), .int .i64 (unpF bs).2]) ∧ Below w.heap.size w w' := by
  by_cases hn : bs.length = 192
  · obtain ⟨g, o, c, rfl, hg, hc⟩ := bytes_cell h (by omega)
    have hcp := hr _ _ _ rfl
    rw [hn] at h hc hcp ⊢
    exact unpF_go g o c bs w hg hc hn hu h hcp _ _ _ rfl rfl rfl
  · have hU : unpF bs = (zeroF, 3) := by unfold unpF; rw [if_neg fun h => hn h.1]
    rw [hU]
    exact unpF_len v bs w h hn hl _ rfl

end Go.Proofs.Ytnmfbhiooccgfaa
