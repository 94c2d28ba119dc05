/- slices.DeleteFunc of rows, walked. -/
import Derived.Test.YtneknlbmiofmlaaQuota4
namespace Go.Proofs.Ytneknlbmiofmlaa
open Go.RowKit

set_option maxRecDepth 100000 in
set_option maxHeartbeats 4000000 in
theorem delete_some (B g cap : Nat) (cur0 : Array Value) (l : List (Int × Int)) (u : Int) (gc n k0 : Nat) (w : World) (hBg : B ≤ g) (hgw : g < w.heap.size) (hBw : B ≤ w.heap.size) (hgc : gc < B) (hcu : w.cell? ⟨gc, 0, none⟩ = some (.int .i64 u))
    (HN : Hid (n = l.length)) (hl : n ≤ 1000000) (hn : n ≤ cap) (hcap : cap ≤ maxLen) (HG : Hid (w.heap[g]? = some (.cells cur0 63 (0, 0)))) (HS : Hid (cur0.size = cap * 2)) (HT : Hid (cur0.toList.take (n * 2) = pairs l))
    (hk0 : k0 < n) (HI : Hid (idxQ l u = some k0)) (HE : Hid (∀ j (hj : j < l.length), j < k0 → l[j].1 ≠ u)) (HU : Hid (∀ (h : k0 < l.length), l[k0].1 = u)) :
    Calls Try.prog 43 #[.slice (some ⟨g, 0, none⟩) n cap, fnV gc] w (RowsRes B (othQ l u) w) := by
  have _ := hgw
  unfold maxLen at hcap
  have HCU : Hid (∀ (x y : Int) (W : World), Below B w W → Calls Try.prog 45 #[.agg #[.int .i64 x, .int .i64 y], .pointer (some ⟨gc, 0, none⟩)] W fun e w' => e = .returned (.bool (x == u)) ∧ Below W.heap.size W w') := fun x y W hW =>
    set1_any x y u gc W ((hW.cell (p := ⟨gc, 0, none⟩) hgc).trans hcu)
  have HCELL : Hid (∀ m (hm : m < l.length), cur0[m * 2]? = some (.int .i64 l[m].1) ∧ cur0[m * 2 + 1]? = some (.int .i64 l[m].2)) := fun m hm => by
    have h1 := rows_get l m hm
    rw [← HT.out, List.getElem?_take, List.getElem?_take, if_pos (by rw [HN.out]; omega), if_pos (by rw [HN.out]; omega)] at h1
    exact ⟨by simpa using h1.1, by simpa using h1.2⟩
  have hrow : RowAt w (.slice (some ⟨g, 0, none⟩) n cap) 2 l.length (pairs l) := by
    refine ⟨pairs_len l, Or.inr ⟨g, 0, cap, by rw [HN.out], fun j x hj => ?_⟩⟩
    rw [Nat.zero_add, cell_of_row _ _ _ _ _ _ HG.out]
    have hjl := (List.getElem?_eq_some_iff.1 hj).1
    rw [pairs_len] at hjl
    rw [← HT.out, List.getElem?_take, if_pos (by rw [HN.out]; omega)] at hj
    simpa using hj
  have HIX := index_any _ l u gc w hrow (by rw [← HN.out]; exact hl) hcu
  have HII : Hid (idxI l u = (k0 : Int)) := by show _ = _; unfold idxI; rw [HI.out]
  rw [HII.out] at HIX
  have HIXH := Lib.hid HIX
  clear HIX hrow hcu
  unfold fnV
  unfold fnV at HIXH
  go_enter Try.func43, Try.ntmps43
  go_wp2_with fail
  refine HIXH.out.mono ?_
  rintro e w1 ⟨rfl, hb1⟩
  have HG1 : Hid (w1.heap[g]? = some (.cells cur0 63 (0, 0))) := heap_below hb1 HG.out
  have hB1 : Below B w w1 := hb1.mono hBw
  have hz1 : w.heap.size ≤ w1.heap.size := hb1.size
  clear hb1
  have hk1 : ((k0 : Int) == -1) = false := by rw [beq_eq_false_iff_ne]; omega
  go_wp2
  go_loopw [5, 6] (fun a b wr => ∃ i j : Nat, a = .int .i64 i ∧ b = .int .i64 j ∧ i < j ∧ j ≤ n ∧ Hid (i = (othQ (l.take j) u).length) ∧ Hid (∃ cur : Array Value, wr.heap[g]? = some (.cells cur 63 (0, 0)) ∧ cur.size = cap * 2 ∧ cur.toList.take (i * 2) = pairs (othQ (l.take j) u) ∧ ∀ m (hm : m < l.length), j ≤ m → cur[m * 2]? = some (.int .i64 l[m].1) ∧ cur[m * 2 + 1]? = some (.int .i64 l[m].2)) ∧ Below B w wr ∧ w.heap.size ≤ wr.heap.size) (fun _ b _ => n - (intOf b).toNat)
  case atStart =>
    have hkl : k0 < l.length := by rw [← HN.out]; exact hk0
    have e1 : othQ (l.take (k0 + 1)) u = l.take k0 := by
      rw [othQ_snoc l u k0 hkl, HU.out hkl, othQ_all fun j hj => by
        have hj2 : j < k0 := by rw [List.length_take] at hj; omega
        rw [List.getElem_take]
        exact HE.out j (by omega) hj2]
      simp
    refine ⟨k0, k0 + 1, rfl, by go_num, by omega, by omega, ?_, ⟨cur0, HG1.out, HS.out, ?_, fun m hm _ => HCELL.out m hm⟩, hB1, hz1⟩
    · rw [e1, List.length_take]; show k0 = _; omega
    · rw [e1]
      have : cur0.toList.take (k0 * 2) = (pairs l).take (k0 * 2) := by rw [← HT.out, List.take_take]; congr 1; omega
      rw [this]
      have e2 : l = l.take k0 ++ l.drop k0 := (List.take_append_drop k0 l).symm
      conv => lhs; rw [e2, pairs_append]
      rw [List.take_append_of_le_length (by rw [pairs_len, List.length_take]; omega), List.take_of_length_le (by rw [pairs_len, List.length_take]; omega)]
  case round =>
    obtain ⟨i, j, rfl, rfl, hij, hj, HIL, HC, HB, hz⟩ := hrel
    obtain ⟨cur, hg, hs, ht, hc⟩ := HC.out
    have HGC := Lib.hid hg
    have HSC := Lib.hid hs
    have HTC := Lib.hid ht
    have HCC := Lib.hid hc
    clear hg hs ht hc HC
    by_cases hlt : j < n
    · have hjl : j < l.length := by rw [← HN.out]; exact hlt
      obtain ⟨x, Hx⟩ : ∃ x, Hid (x = l[j].1) := ⟨l[j].1, rfl⟩
      obtain ⟨y, Hy⟩ : ∃ y, Hid (y = l[j].2) := ⟨l[j].2, rfl⟩
      have hgr : g < wr.heap.size := heap_lt HGC.out
      have c0 : wr.cell? ⟨g, j * 2, none⟩ = some (.int .i64 x) := by rw [cell_of_row _ _ _ _ _ _ HGC.out, (HCC.out j hjl (Nat.le_refl _)).1, Hx.out]
      have c1 : wr.cell? ⟨g, j * 2 + 1, none⟩ = some (.int .i64 y) := by rw [cell_of_row _ _ _ _ _ _ HGC.out, (HCC.out j hjl (Nat.le_refl _)).2, Hy.out]
      go_wp2_with fail
      refine (HCU.out x y _ (HB.alloc (by omega) _)).mono ?_
      have HSN := Lib.hid (othQ_snoc l u j hjl)
      rw [← Hx.out] at HSN
      have HGA : Hid ((wr.alloc (.cells #[.int .i64 x, .int .i64 y] 63)).heap[g]? = some (.cells cur 63 (0, 0))) := heap_alloc_keep HGC.out _
      by_cases hxu : x = u
      · have b1 : (x == u) = true := by simpa using hxu
        rw [b1, if_pos rfl, List.append_nil] at HSN
        rw [b1]
        clear hxu b1
        rintro e w3 ⟨rfl, hb3⟩
        have HG3 : Hid (w3.heap[g]? = some (.cells cur 63 (0, 0))) := heap_below hb3 HGA.out
        have hB3 : Below B w w3 := (HB.alloc (by omega) _).trans (hb3.mono (by simp; omega))
        have hz3 : w.heap.size ≤ w3.heap.size := by have := hb3.size; simp at this; omega
        clear hb3
        go_wp2
        go_roundw
        case rel => exact ⟨i, j + 1, rfl, by go_num, by omega, by omega, by show i = _; rw [HSN.out]; exact HIL.out, ⟨cur, HG3.out, HSC.out, by rw [HSN.out]; exact HTC.out, fun m hm hjm => HCC.out m hm (by omega)⟩, hB3, hz3⟩
        case measure => simp [intOf]; omega
      · have b1 : (x == u) = false := by simpa using hxu
        rw [b1, if_neg (by simp)] at HSN
        rw [b1]
        clear hxu b1
        rintro e w3 ⟨rfl, hb3⟩
        have HG3 : Hid (w3.heap[g]? = some (.cells cur 63 (0, 0))) := heap_below hb3 HGA.out
        have HR3 : Hid (w3.heap[wr.heap.size]? = some (.cells #[.int .i64 x, .int .i64 y] 63 (0, 0))) := heap_below hb3 (heap_alloc_new wr _)
        have hB3 : Below B w w3 := (HB.alloc (by omega) _).trans (hb3.mono (by simp; omega))
        have hz3 : w.heap.size ≤ w3.heap.size := by have := hb3.size; simp at this; omega
        clear hb3
        have hsz : i * 2 + 1 < cur.size := by rw [HSC.out]; omega
        obtain ⟨v0, hv0⟩ : ∃ v0, cur[i * 2]? = some v0 := ⟨_, Array.getElem?_eq_getElem (by omega)⟩
        obtain ⟨v1, hv1⟩ : ∃ v1, cur[i * 2 + 1]? = some v1 := ⟨_, Array.getElem?_eq_getElem hsz⟩
        have d0 : w3.cell? ⟨g, i * 2, none⟩ = some v0 := by rw [cell_of_row _ _ _ _ _ _ HG3.out]; exact hv0
        have d1 : w3.cell? ⟨g, i * 2 + 1, none⟩ = some v1 := by rw [cell_of_row _ _ _ _ _ _ HG3.out]; exact hv1
        have f0 : w3.frozen? ⟨g, i * 2, none⟩ = false := frozen_of_row _ _ _ _ _ HG3.out
        have f1 : w3.frozen? ⟨g, i * 2 + 1, none⟩ = false := frozen_of_row _ _ _ _ _ HG3.out
        have r0 : w3.cell? ⟨wr.heap.size, 0, none⟩ = some (.int .i64 x) := by rw [cell_of_row _ _ _ _ _ _ HR3.out]; rfl
        have r1 : w3.cell? ⟨wr.heap.size, 1, none⟩ = some (.int .i64 y) := by rw [cell_of_row _ _ _ _ _ _ HR3.out]; rfl
        have hil : (i : Int) < (n : Int) := by omega
        have hi0 : (0 : Int) ≤ (i : Int) := by omega
        have HSZ := Lib.hid hsz
        clear hv0 hv1 hsz
        go_wp2
        go_roundw
        case rel =>
          have h2 := two_set cur.toList (i * 2) (.int .i64 x) (.int .i64 y) (by rw [Array.length_toList]; exact HSZ.out)
          refine ⟨i + 1, j + 1, by go_num, by go_num, by omega, by omega, ?_, ⟨(cur.setIfInBounds (i * 2) (.int .i64 x)).setIfInBounds (i * 2 + 1) (.int .i64 y), ?_, ?_, ?_, ?_⟩, ?_, ?_⟩
          · show i + 1 = _
            rw [HSN.out, List.length_append, ← HIL.out]; rfl
          · exact heap_setCell_same _ _ _ _ _ _ (heap_setCell_same _ _ _ _ _ _ HG3.out)
          · rw [Array.size_setIfInBounds, Array.size_setIfInBounds]; exact HSC.out
          · rw [Array.toList_setIfInBounds, Array.toList_setIfInBounds, show (i + 1) * 2 = i * 2 + 2 by omega, h2.1, HTC.out, HSN.out, pairs_append, Hx.out, Hy.out]
            rfl
          · intro m hm hjm
            have e0 := h2.2 (m * 2) (by omega)
            have e1 := h2.2 (m * 2 + 1) (by omega)
            rw [← Array.getElem?_toList, ← Array.getElem?_toList, Array.toList_setIfInBounds, Array.toList_setIfInBounds, e0, e1, Array.getElem?_toList, Array.getElem?_toList]
            exact HCC.out m hm (by omega)
          · exact (hB3.setCell hBg _).setCell hBg _
          · simpa [World.setCell] using hz3
        case measure => simp [intOf]; omega
    · obtain rfl : j = n := by omega
      obtain ⟨zs, hzl, hrun⟩ := run_clear_pairs (P := Try.prog) wr 56 63 rowT rowZ g (i * 2) (j - i) (cap - i) cur 63 (by omega) HGC.out (by rw [HSC.out]; omega)
      have hic : i ≠ cap := by omega
      have HZL := Lib.hid hzl
      obtain ⟨W, hW⟩ : ∃ W, W = wr.setRow g (cur.toList.take (i * 2) ++ zs ++ cur.toList.drop (i * 2 + zs.length)).toArray := ⟨_, rfl⟩
      rw [← hW] at hrun
      have HWH := Lib.hid hW
      clear hzl hW
      go_wp2
      go_ret
      have hfl : othQ (l.take j) u = othQ l u := by rw [List.take_of_length_le (by rw [← HN.out]; omega)]
      rw [hfl] at HTC HIL
      refine ⟨_, rfl, ?_, ?_, ?_⟩
      · rw [← HIL.out]
        refine ⟨by rw [pairs_len, ← HIL.out], Or.inr ⟨g, cap, _, rfl, hBg, by rw [HWH.out]; exact setRow_heap _ _ _ _ _ _ HGC.out, by omega, by unfold maxLen; omega, ?_, ?_⟩⟩
        · simp [HZL.out, HSC.out]; omega
        · have hl1 : (cur.toList.take (i * 2)).length = i * 2 := by rw [List.length_take, Array.length_toList, HSC.out]; omega
          rw [List.append_assoc, List.take_append_of_le_length (by omega), List.take_of_length_le (by omega)]
          exact HTC.out
      · rw [HWH.out]; exact below_rowSet HB hBg _
      · rw [HWH.out]; simpa [World.setRow] using hz

end Go.Proofs.Ytneknlbmiofmlaa
