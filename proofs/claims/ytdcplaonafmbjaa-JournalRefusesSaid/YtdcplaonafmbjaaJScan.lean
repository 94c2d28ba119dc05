/- Scan, walked. -/
import Derived.Test.YtdcplaonafmbjaaJw
import Derived.Laws.AppendOwn
import Derived.Deep.AppendLies
namespace Go.Proofs.Ytdcplaonafmbjaa
open Go.RowKit

def hB (D : List Int) (j : Nat) : Int := D.getD j 0
def scanSeq (N : List Int) : Int := rdB (hB (sec N 2) 1) (hB (sec N 2) 2) (hB (sec N 2) 3) (hB (sec N 2) 4)
def scanN (N : List Int) : Nat := (hB (sec N 2) 5).toNat
def scanK (N : List Int) (n : Nat) : List Wr := (List.range n).map fun i => ((hB (sec N 2) (6 + i)).toNat, sec N (3 + i))
def scanH (N : List Int) : Bool := (hB (sec N 2) 0 == 74) && decide (1 ≤ scanN N) && decide (scanN N ≤ 4)
def scanT (N : List Int) : Bool := (hB (sec N (3 + scanN N)) 0 == 67) && (rdB (hB (sec N (3 + scanN N)) 1) (hB (sec N (3 + scanN N)) 2) (hB (sec N (3 + scanN N)) 3) (hB (sec N (3 + scanN N)) 4) == scanSeq N) &&
  (rdB (hB (sec N (3 + scanN N)) 5) (hB (sec N (3 + scanN N)) 6) (hB (sec N (3 + scanN N)) 7) (hB (sec N (3 + scanN N)) 8) == sumW (scanK N (scanN N)))
theorem scanK_snoc (N : List Int) (n : Nat) : scanK N (n + 1) = scanK N n ++ [((hB (sec N 2) (6 + n)).toNat, sec N (3 + n))] := by unfold scanK; rw [List.range_succ, List.map_append]; rfl
theorem scanK_len (N : List Int) (n : Nat) : (scanK N n).length = n := by unfold scanK; simp

def ByteL (D : List Int) : Prop := ∀ x ∈ D, 0 ≤ x ∧ x ≤ 255
theorem ByteL.get {D : List Int} (h : ByteL D) (j : Nat) : 0 ≤ hB D j ∧ hB D j ≤ 255 := by
  unfold hB
  rw [List.getD_eq_getElem?_getD]
  cases hx : D[j]? with
  | none => simp
  | some x => exact h x (List.mem_of_getElem? hx)
theorem ByteL.sec {D : List Int} (h : ByteL D) (n : Nat) : ByteL (sec D n) := fun x hx => h x (List.mem_of_mem_drop (List.mem_of_mem_take hx))
theorem new_bytes64 {D : List Int} {w w' : World} {v : Value} (h : NewBytes D w v w') (hl : D.length = 64) : ∃ g cap cur, v = .slice (some ⟨g, 0, none⟩) 64 cap ∧ 64 ≤ cap ∧ w.heap.size ≤ g ∧ g < w'.heap.size ∧ (∀ j, j < 64 → w'.cell? ⟨g, j, none⟩ = some (.int .u8 (hB D j))) ∧ w'.heap[g]? = some (.cells cur 5 (0, 0)) ∧ cur.toList.take 64 = u8s D ∧ Below w.heap.size w w' := by
  obtain ⟨g, cap, cur, hv, ⟨h1, h2⟩, h3, h4, h5⟩ := h
  rw [hl] at hv h2 h4
  refine ⟨g, cap, cur, hv, h2, h1, heap_lt h3, fun j hj => ?_, h3, h4, h5⟩
  rw [cell_of_row _ _ _ _ _ _ h3]
  have h6 : (u8s D)[j]? = some (.int .u8 (D[j]'(by omega))) := u8s_get D j (by omega)
  rw [← h4, List.getElem?_take, if_pos hj] at h6
  unfold hB
  rw [List.getD_eq_getElem?_getD, List.getElem?_eq_getElem (by omega)]
  simpa using h6
theorem jwInfo : (Try.prog.info? 44).map (fun i => (i.zero, i.size, i.bytes)) = some (some (.agg #[.int .i64 0, .slice none 0 0]), 2, 32) := by kernel_rfl
theorem jwT : Try.prog.underlying 35 = some (.slice 44) := by kernel_rfl

theorem region_at {w : World} {d : Value} {st : Dk} {F : Nat → Prop} (h : DiskAt w d st 20 F) : Calls Try.prog 48 #[d, .int .i64 2, .int .i64 6] w fun e w' => e = .returned (.int .i64 0) ∧ w = w' := by
  have HS := Lib.hid (size_at h)
  obtain ⟨a, rfl⟩ := h.ptr
  clear h
  go_enter Try.func48, Try.ntmps48
  go_wp2_with fail
  refine HS.out.mono ?_
  rintro e w' ⟨rfl, rfl⟩
  go_wp2
  go_ret
  exact ⟨rfl, rfl⟩

def ScanRes (N : List Int) (w : World) (e : Ending) (w' : World) : Prop :=
  (scanH N = false ∧ e = .returned (.tuple #[.slice none 0 0, .int .u32 0, .bool false, .int .i64 0]) ∧ Below w.heap.size w w') ∨
  (scanH N = true ∧ scanT N = false ∧ e = .returned (.tuple #[.slice none 0 0, .int .u32 (scanSeq N), .bool false, .int .i64 0]) ∧ Below w.heap.size w w') ∨
  (scanH N = true ∧ scanT N = true ∧ ∃ v E, e = .returned (.tuple #[v, .int .u32 (scanSeq N), .bool true, .int .i64 0]) ∧ E.map jab = scanK N (scanN N) ∧ JwsTwo w' w.heap.size w.heap.size v E ∧ Below w.heap.size w w')

set_option maxRecDepth 100000 in
set_option maxHeartbeats 8000000 in
theorem scan_raw {w : World} {a : Addr} {st : Dk} {F : Nat → Prop} (h : DiskAt w (.pointer (some a)) st 20 F) (hN : ByteL st.N) :
    Calls Try.prog 15 #[.pointer (some a), .int .i64 2, .int .i64 6] w (ScanRes st.N w) := by
  unfold ScanRes
  have HD := Lib.hid h
  have hlN := h.lens.2
  have hs64 : ∀ n, n < 20 → (sec st.N n).length = 64 := fun n hn => sec_len hlN hn
  have HS64 := Lib.hid hs64
  have HBY := Lib.hid (fun n j => (hN.sec n).get j)
  have HRG := Lib.hid (region_at h)
  have HR2 := Lib.hid (read_at h 2 (by omega))
  clear hs64 hlN h
  go_enter Try.func15, Try.ntmps15
  go_wp2_with fail
  refine HRG.out.mono ?_
  rintro e w' ⟨rfl, rfl⟩
  go_wp2_with fail
  refine HR2.out.mono ?_
  rintro e w1 ⟨v1, rfl, hv1⟩
  obtain ⟨g, cap, _, rfl, hcap, hg0, hg1, hc, _, _, hb1⟩ := new_bytes64 hv1 (HS64.out 2 (by omega))
  have HC := Lib.hid hc
  have HB1 := Lib.hid hb1
  obtain ⟨x0, Hx0⟩ : ∃ x, Hid (hB (sec st.N 2) 0 = x) := ⟨_, rfl⟩
  obtain ⟨n, Hn⟩ : ∃ n, Hid (scanN st.N = n) := ⟨_, rfl⟩
  have hn5 : hB (sec st.N 2) 5 = (n : Int) := by
    have := HBY.out 2 5
    rw [← Hn.out]
    unfold scanN
    omega
  have c0 := hc 0 (by omega)
  have c5 := hc 5 (by omega)
  rw [Hx0.out] at c0
  rw [hn5] at c5
  have hn255 : (n : Int) ≤ 255 := by have := HBY.out 2 5; omega
  have HHD : Hid (scanH st.N = ((x0 == 74) && decide (1 ≤ n) && decide (n ≤ 4))) := by show _ = _; unfold scanH; rw [Hx0.out, Hn.out]
  clear hc hv1 hb1 hn5 HR2 HRG
  by_cases hx0 : x0 = 74
  case neg =>
    have b1 : (x0 == 74) = false := by simpa using hx0
    have b2 : (x0 != 74) = true := by simp [bne, b1]
    have HF : Hid (scanH st.N = false) := by show _ = _; rw [HHD.out, b1]; rfl
    clear hx0
    go_wp2
    exact bodyPost_ret (v := .tuple #[.slice none 0 0, .int .u32 0, .bool false, .int .i64 0]) (by simp [results, Try.results15, go_sem]) rfl (Or.inl ⟨HF.out, rfl, HB1.out⟩)
  have b1 : (x0 == 74) = true := by simpa using hx0
  have b2 : (x0 != 74) = false := by simp [bne, b1]
  clear hx0
  by_cases hn1 : 1 ≤ n
  case neg =>
    have d1 : decide (n < 1) = true := by rw [decide_eq_true_iff]; omega
    have hn0 : n = 0 := by omega
    subst hn0
    have HF : Hid (scanH st.N = false) := by show _ = _; rw [HHD.out, b1]; rfl
    go_wp2
    exact bodyPost_ret (v := .tuple #[.slice none 0 0, .int .u32 0, .bool false, .int .i64 0]) (by simp [results, Try.results15, go_sem]) rfl (Or.inl ⟨HF.out, rfl, HB1.out⟩)
  by_cases hn4 : n ≤ 4
  case neg =>
    have d1 : decide ((n : Int) < 1) = false := by rw [decide_eq_false_iff_not]; omega
    have d2 : decide ((4 : Int) < (n : Int)) = true := by rw [decide_eq_true_iff]; omega
    have d3 : decide (n < 1) = false := by rw [decide_eq_false_iff_not]; omega
    have d4 : decide (4 < n) = true := by rw [decide_eq_true_iff]; omega
    have HF : Hid (scanH st.N = false) := by show _ = _; rw [HHD.out, decide_eq_false hn4]; simp
    go_wp2
    exact bodyPost_ret (v := .tuple #[.slice none 0 0, .int .u32 0, .bool false, .int .i64 0]) (by simp [results, Try.results15, go_sem]) rfl (Or.inl ⟨HF.out, rfl, HB1.out⟩)
  have HF : Hid (scanH st.N = true) := by show _ = _; rw [HHD.out, b1, decide_eq_true hn1, decide_eq_true hn4]; rfl
  have d1 : decide ((n : Int) < 1) = false := by rw [decide_eq_false_iff_not]; omega
  have d2 : decide ((4 : Int) < (n : Int)) = false := by rw [decide_eq_false_iff_not]; omega
  have d3 : decide (n < 1) = false := by rw [decide_eq_false_iff_not]; omega
  have d4 : decide (4 < n) = false := by rw [decide_eq_false_iff_not]; omega
  have hcap1 : ¬ cap = 1 := by omega
  have hcap1' : ¬ (1 : Nat) = cap := by omega
  have hcap2 : 1 ≤ cap := by omega
  obtain ⟨sq, Hsq⟩ : ∃ s, Hid (scanSeq st.N = s) := ⟨_, rfl⟩
  have HRD := Lib.hid (read_any (hB (sec st.N 2) 1) (hB (sec st.N 2) 2) (hB (sec st.N 2) 3) (hB (sec st.N 2) 4) g 1 63 (cap - 1) (by omega) w1 (HC.out 1 (by omega)) (HC.out 2 (by omega)) (HC.out 3 (by omega)) (HC.out 4 (by omega)))
  rw [show rdB (hB (sec st.N 2) 1) (hB (sec st.N 2) 2) (hB (sec st.N 2) 3) (hB (sec st.N 2) 4) = sq from Hsq.out] at HRD
  go_wp2_with fail
  refine HRD.out.mono ?_
  rintro e w2 ⟨rfl, hb2⟩
  have HB2 : Hid (Below w.heap.size w w2) := Below.step HB1.out hb2
  have HC2 : Hid (∀ j, j < 64 → w2.cell? ⟨g, j, none⟩ = some (.int .u8 (hB (sec st.N 2) j))) := fun j hj => (hb2.cell (p := ⟨g, j, none⟩) hg1).trans (HC.out j hj)
  have hg2 : g < w2.heap.size := Nat.lt_of_lt_of_le hg1 hb2.size
  obtain ⟨i0, hi0, hz0, hz1, hz2⟩ := info_parts jwInfo
  have HI0 := Lib.hid hi0
  have HIZ := Lib.hid hz0
  have HI1 := Lib.hid hz1
  have HI2 := Lib.hid hz2
  clear hb2 c0 c5 d1 d2 d3 d4 HC hi0 hz0 hz1 hz2 b1 b2
  go_wp2
  go_loopw [15, 56] (fun l i wr => ∃ (k : Nat) (E : List Jw), k ≤ n ∧ i = .int .i64 k ∧ Hid (E.map jab = scanK st.N k) ∧ Hid (JwsTwo wr w2.heap.size w.heap.size l E) ∧ Hid (Below w2.heap.size w2 wr)) (fun _ i _ => n - (intOf i).toNat)
  case atStart => exact ⟨0, [], Nat.zero_le _, rfl, rfl, ⟨World.ownsRow_nil _ _ _ _, fun x hx => by simp at hx⟩, Below.refl _ _⟩
  case round =>
    obtain ⟨k, E, hk, rfl, HEK, HJ, HB⟩ := hrel
    by_cases hlt : k < n
    · have HDR := Lib.hid (HD.out.below (Below.step HB2.out HB.out))
      have HRK := Lib.hid (read_at HDR.out (3 + k) (by omega))
      rw [show ((3 + k : Nat) : Int) = 3 + (k : Int) by omega] at HRK
      have hlt2 : (k : Int) < (n : Int) := by omega
      go_wp2_with fail
      refine HRK.out.mono ?_
      rintro e w3 ⟨v3, rfl, hv3⟩
      obtain ⟨gd, capd, curd, rfl, hcapd, hgd0, hgd1, _, hhd, htd, hb3⟩ := new_bytes64 hv3 (HS64.out (3 + k) (by omega))
      have HJ3 := Lib.hid (HJ.out.below hb3)
      have HB3 : Hid (Below w2.heap.size w2 w3) := HB.out.trans (hb3.mono HB.out.size)
      have hh6 := HBY.out 2 (6 + k)
      obtain ⟨y, Hy⟩ : ∃ y : Nat, Hid (hB (sec st.N 2) (6 + k) = (y : Int)) := ⟨(hB (sec st.N 2) (6 + k)).toNat, by show _ = _; omega⟩
      have hy255 : (y : Int) ≤ 255 := by rw [← Hy.out]; exact hh6.2
      have c6 : w3.cell? ⟨g, 6 + k, none⟩ = some (.int .u8 (y : Int)) := by
        rw [← Hy.out]
        exact (HB3.out.cell (p := ⟨g, 6 + k, none⟩) hg2).trans (HC2.out (6 + k) (by omega))
      have HJN : Hid (JwNew (w3.alloc (.cells #[.int .i64 (y : Int), .slice (some ⟨gd, 0, none⟩) 64 capd] 44)) w.heap.size ⟨y, .slice (some ⟨gd, 0, none⟩) 64 capd, sec st.N (3 + k)⟩) :=
        ⟨by show y < 256; omega, HS64.out (3 + k) (by omega), gd, capd, curd, rfl, ⟨Nat.le_trans HB2.out.size (Nat.le_trans HB.out.size hgd0), hcapd⟩, heap_alloc_keep hhd _, htd⟩
      have HEK2 : Hid ((E ++ [(⟨y, .slice (some ⟨gd, 0, none⟩) 64 capd, sec st.N (3 + k)⟩ : Jw)]).map jab = scanK st.N (k + 1)) := by
        show _ = _
        rw [List.map_append, HEK.out, scanK_snoc, Hy.out]
        rfl
      have hEl : E.length = k := by
        have := congrArg List.length HEK.out
        rwa [List.length_map, scanK_len] at this
      have HEL := Lib.hid hEl
      have hsz := HB3.out.size
      have hk4 : k < 4 := by omega
      have e9 : 6 + k < 64 := by omega
      have HNB : Hid ((w3.alloc (.cells #[.int .i64 (y : Int), .slice (some ⟨gd, 0, none⟩) 64 capd] 44)).heap[w3.heap.size]? = some (.cells #[.int .i64 (y : Int), .slice (some ⟨gd, 0, none⟩) 64 capd] 44 (0, 0))) := heap_alloc_new _ _
      have HJA := Lib.hid (HJ3.out.below ((Below.refl _ _).alloc (Nat.le_refl _) (.cells #[.int .i64 (y : Int), .slice (some ⟨gd, 0, none⟩) 64 capd] 44)))
      clear hh6 hb3 hv3 hhd htd hgd0 hEl HDR HRK
      go_wp2_with (at_builtin; refine wpList_append_own _ rfl _ _ 35 rfl w2.heap.size 44 i0 (.agg #[.int .i64 0, .slice none 0 0]) 2 32 jwT HI0.out HIZ.out HI1.out HI2.out rfl (by decide) _ _ _ rfl HJA.out.1 ⟨_, 0, none⟩ 1 1 [.int .i64 (y : Int), .slice (some ⟨gd, 0, none⟩) 64 capd] rfl rfl (World.news_of_block (cs := #[.int .i64 (y : Int), .slice (some ⟨gd, 0, none⟩) 64 capd]) (t := 44) (fr := (0, 0)) HNB.out) (by simp [Value.oneCell']) (by rw [HEL.out]; unfold maxLen; omega) (by rw [HEL.out]; omega) (by simp; omega) ?_; intro v5 w5 hown hgrow _)
      have HJ5 : Hid (JwsTwo w5 w2.heap.size w.heap.size v5 (E ++ [(⟨y, .slice (some ⟨gd, 0, none⟩) 64 capd, sec st.N (3 + k)⟩ : Jw)])) := by
        have hkeep : ∀ (i : Nat) (c : Array Value), (w3.alloc (.cells #[.int .i64 (y : Int), .slice (some ⟨gd, 0, none⟩) 64 capd] 44)).heap[i]? = some (.cells c 5 (0, 0)) → w5.heap[i]? = (w3.alloc (.cells #[.int .i64 (y : Int), .slice (some ⟨gd, 0, none⟩) 64 capd] 44)).heap[i]? := fun i c hi => hgrow.block i (heap_lt hi) (fun e => own_ne HJA.out.1 hi (by decide) e.symm)
        refine ⟨by rw [List.length_append, jcells_append]; exact hown, fun x hx => ?_⟩
        rcases List.mem_append.1 hx with hx | hx
        · exact (HJA.out.2 x hx).keep fun i c _ hi => hkeep i c hi
        · rw [List.mem_singleton] at hx
          subst hx
          exact HJN.out.keep fun i c _ hi => hkeep i c hi
      have HB5 : Hid (Below w2.heap.size w2 w5) := Below.grown (HB3.out.alloc hsz _) hgrow (by simp; omega) (fun q hq => (HJ.out.1.lt q hq).1)
      clear hown hgrow
      go_wp2
      go_roundw
      case rel => exact ⟨k + 1, E ++ [(⟨y, .slice (some ⟨gd, 0, none⟩) 64 capd, sec st.N (3 + k)⟩ : Jw)], by omega, by go_num, HEK2, HJ5, HB5⟩
      case measure => simp [intOf]; omega
    · obtain rfl : k = n := by omega
      have HDR := Lib.hid (HD.out.below (Below.step HB2.out HB.out))
      have HRT := Lib.hid (read_at HDR.out (3 + k) (by omega))
      rw [show ((3 + k : Nat) : Int) = 3 + (k : Int) by omega] at HRT
      have hBW : Below w.heap.size w wr := HB2.out.trans (HB.out.mono HB2.out.size)
      have HBW := Lib.hid hBW
      clear hBW HDR
      go_wp2_with fail
      refine HRT.out.mono ?_
      rintro e w3 ⟨v3, rfl, hv3⟩
      obtain ⟨gt, capt, _, rfl, hcapt, hgt0, hgt1, hct, _, _, hb3⟩ := new_bytes64 hv3 (HS64.out (3 + k) (by omega))
      have HB3 := Lib.hid (Below.step HBW.out hb3)
      have HJ3 := Lib.hid (HJ.out.below hb3)
      have HCT := Lib.hid hct
      have ct0 := hct 0 (by omega)
      obtain ⟨t0, Ht0⟩ : ∃ t, Hid (hB (sec st.N (3 + k)) 0 = t) := ⟨_, rfl⟩
      rw [Ht0.out] at ct0
      obtain ⟨ts, Hts⟩ : ∃ t, Hid (rdB (hB (sec st.N (3 + k)) 1) (hB (sec st.N (3 + k)) 2) (hB (sec st.N (3 + k)) 3) (hB (sec st.N (3 + k)) 4) = t) := ⟨_, rfl⟩
      obtain ⟨tz, Htz⟩ : ∃ t, Hid (rdB (hB (sec st.N (3 + k)) 5) (hB (sec st.N (3 + k)) 6) (hB (sec st.N (3 + k)) 7) (hB (sec st.N (3 + k)) 8) = t) := ⟨_, rfl⟩
      obtain ⟨sw, Hsw⟩ : ∃ t, Hid (sumW (scanK st.N k) = t) := ⟨_, rfl⟩
      have HTT : Hid (scanT st.N = ((t0 == 67) && (ts == sq) && (tz == sw))) := by
        show _ = _
        unfold scanT
        rw [Hn.out, Ht0.out, Hts.out, Htz.out, Hsw.out, Hsq.out]
      have hEl : E.length = k := by
        have := congrArg List.length HEK.out
        rwa [List.length_map, scanK_len] at this
      clear hct hv3 hb3 HRT
      by_cases hq0 : t0 = 67
      case neg =>
        have b1 : (t0 == 67) = false := by simpa using hq0
        have b2 : (t0 != 67) = true := by simp [bne, b1]
        have HTF : Hid (scanT st.N = false) := by show _ = _; rw [HTT.out, b1]; rfl
        clear hq0
        go_wp2
        exact bodyPost_ret (v := .tuple #[.slice none 0 0, .int .u32 (scanSeq st.N), .bool false, .int .i64 0]) (by simp [results, Try.results15, go_sem, Hsq.out]) rfl (Or.inr (Or.inl ⟨HF.out, HTF.out, rfl, HB3.out⟩))
      have b1 : (t0 == 67) = true := by simpa using hq0
      have b2 : (t0 != 67) = false := by simp [bne, b1]
      have ht1 : ¬ capt = 1 := by omega
      have ht2 : 1 ≤ capt := by omega
      have ht5 : ¬ capt = 5 := by omega
      have ht6 : 5 ≤ capt := by omega
      have HRD2 := Lib.hid (read_any (hB (sec st.N (3 + k)) 1) (hB (sec st.N (3 + k)) 2) (hB (sec st.N (3 + k)) 3) (hB (sec st.N (3 + k)) 4) gt 1 63 (capt - 1) (by omega) w3 (HCT.out 1 (by omega)) (HCT.out 2 (by omega)) (HCT.out 3 (by omega)) (HCT.out 4 (by omega)))
      rw [Hts.out] at HRD2
      clear hq0
      go_wp2_with fail
      refine HRD2.out.mono ?_
      rintro e w4 ⟨rfl, hb4⟩
      have HB4 := Lib.hid (Below.step HB3.out hb4)
      have HJ4 := Lib.hid (HJ3.out.below hb4)
      have HCT4 : Hid (∀ j, j < 64 → w4.cell? ⟨gt, j, none⟩ = some (.int .u8 (hB (sec st.N (3 + k)) j))) := fun j hj => (hb4.cell (p := ⟨gt, j, none⟩) hgt1).trans (HCT.out j hj)
      clear hb4 ct0
      by_cases hq1 : ts = sq
      case neg =>
        have b3 : (ts == sq) = false := by simpa using hq1
        have b4 : (ts != sq) = true := by simp [bne, b3]
        have HTF : Hid (scanT st.N = false) := by show _ = _; rw [HTT.out, b3]; simp
        clear hq1
        go_wp2
        exact bodyPost_ret (v := .tuple #[.slice none 0 0, .int .u32 (scanSeq st.N), .bool false, .int .i64 0]) (by simp [results, Try.results15, go_sem, Hsq.out]) rfl (Or.inr (Or.inl ⟨HF.out, HTF.out, rfl, HB4.out⟩))
      have b3 : (ts == sq) = true := by simpa using hq1
      have b4 : (ts != sq) = false := by simp [bne, b3]
      have HRD3 := Lib.hid (read_any (hB (sec st.N (3 + k)) 5) (hB (sec st.N (3 + k)) 6) (hB (sec st.N (3 + k)) 7) (hB (sec st.N (3 + k)) 8) gt 5 59 (capt - 5) (by omega) w4 (HCT4.out 5 (by omega)) (HCT4.out 6 (by omega)) (HCT4.out 7 (by omega)) (HCT4.out 8 (by omega)))
      rw [Htz.out] at HRD3
      clear hq1
      go_wp2_with fail
      refine HRD3.out.mono ?_
      rintro e w5 ⟨rfl, hb5⟩
      have HB5 := Lib.hid (Below.step HB4.out hb5)
      have HJ5 := Lib.hid (HJ4.out.below hb5)
      have HSW := Lib.hid (sumW_any u15 E w5 HJ5.out.at (by omega))
      rw [HEK.out, Hsw.out] at HSW
      clear hb5
      go_wp2_with fail
      refine HSW.out.mono ?_
      rintro e w6 ⟨rfl, hb6⟩
      have HB6 := Lib.hid (Below.step HB5.out hb6)
      have HJ6 := Lib.hid (HJ5.out.below hb6)
      clear hb6
      by_cases hq2 : tz = sw
      case neg =>
        have b5 : (tz == sw) = false := by simpa using hq2
        have b6 : (tz != sw) = true := by simp [bne, b5]
        have HTF : Hid (scanT st.N = false) := by show _ = _; rw [HTT.out, b5]; simp
        clear hq2
        go_wp2
        exact bodyPost_ret (v := .tuple #[.slice none 0 0, .int .u32 (scanSeq st.N), .bool false, .int .i64 0]) (by simp [results, Try.results15, go_sem, Hsq.out]) rfl (Or.inr (Or.inl ⟨HF.out, HTF.out, rfl, HB6.out⟩))
      have b5 : (tz == sw) = true := by simpa using hq2
      have b6 : (tz != sw) = false := by simp [bne, b5]
      have HTF : Hid (scanT st.N = true) := by show _ = _; rw [HTT.out, b1, b3, b5]; rfl
      clear hq2
      go_wp2
      refine bodyPost_ret (v := .tuple #[u15, .int .u32 (scanSeq st.N), .bool true, .int .i64 0]) (by simp [results, Try.results15, go_sem, Hsq.out]) rfl (Or.inr (Or.inr ⟨HF.out, HTF.out, u15, E, rfl, by rw [Hn.out]; exact HEK.out, ?_, HB6.out⟩))
      obtain ⟨o1, o2⟩ := HJ6.out
      refine ⟨?_, o2⟩
      obtain ⟨e1, h | ⟨g', cap', cur', hv', hg', r'⟩⟩ := o1
      · exact ⟨e1, Or.inl h⟩
      · exact ⟨e1, Or.inr ⟨g', cap', cur', hv', Nat.le_trans HB2.out.size hg', r'⟩⟩

end Go.Proofs.Ytdcplaonafmbjaa
