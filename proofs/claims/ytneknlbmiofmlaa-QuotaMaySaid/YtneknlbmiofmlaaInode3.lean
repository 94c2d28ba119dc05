/- inode.Pack: a node in 32 bytes. -/
import Derived.Test.YtneknlbmiofmlaaInode2
import Derived.RegionTactic
import Derived.BigRegion
import Derived.Deep.DeepCutAuto
namespace Go.Proofs.Ytneknlbmiofmlaa
open Go.RowKit

/-- The bytes of a node. -/
def packN (k m u g s l up : Int) (P : List Int) : List Int :=
  if k = 0 then List.replicate 32 0 else [k, m % 256, m / 256, u, g, s % 256, s / 256, l, up] ++ packL (ofE P) ++ List.replicate 7 0

theorem make32 (W : World) : (Instr.makeSlice 37 (.int .i64 32) (.int .i64 32)).run Try.prog W = .ok (.slice (some ⟨W.heap.size, 0, none⟩) 32 32) (W.alloc (.cells (byts (List.replicate 32 0)) 5)) := by kernel_rfl

set_option maxRecDepth 100000 in
set_option maxHeartbeats 1000000 in
theorem packN_bad (k m u g s l up : Int) (v : Value) (P : List Int) (w : World) (h : IntsAt w v P) (hl : P.length ≤ 1000000) (c : Int) (hc : Hid (rightN k m u g s l up P = c)) (hc0 : (c != 0) = true) :
    Calls Try.prog 25 #[.agg #[.int .i64 k, .int .i64 m, .int .i64 u, .int .i64 g, .int .i64 s, .int .i64 l, .int .i64 up, v]] w fun e w' => e = .returned (.tuple #[.slice none 0 0, .int .i64 c]) ∧ Below w.heap.size w w' := by
  have HA : Hid (∀ o : Obj, Below w.heap.size w (w.alloc o)) := fun o => (Below.refl _ _).alloc (Nat.le_refl _) o
  have H : Hid (∀ o : Obj, IntsAt (w.alloc o) v P) := fun o => RowAt.below h (HA.out o)
  clear h
  go_enter Try.func25, Try.ntmps25
  go_wp2_with fail
  refine (right_node k m u g s l up v P _ (H.out _) hl).mono ?_
  rw [hc.out]
  rintro e w1 ⟨rfl, hb1⟩
  have hB := Below.step (HA.out _) hb1
  clear hb1
  go_wp2
  go_ret2
  exact ⟨rfl, hB⟩

def PackNRes (k m u g s l up : Int) (P : List Int) (w : World) (e : Ending) (w' : World) : Prop :=
  ∃ b, e = .returned (.tuple #[.slice (some ⟨b, 0, none⟩) 32 32, .int .i64 0]) ∧ w.heap.size ≤ b ∧ w'.heap[b]? = some (.cells (byts (packN k m u g s l up P)) 5 (0, 0)) ∧ Below w.heap.size w w'

set_option maxRecDepth 100000 in
set_option maxHeartbeats 4000000 in
theorem packN_none (v : Value) (w : World) (h : IntsAt w v []) :
    Calls Try.prog 25 #[.agg #[.int .i64 0, .int .i64 0, .int .i64 0, .int .i64 0, .int .i64 0, .int .i64 0, .int .i64 0, v]] w (PackNRes 0 0 0 0 0 0 0 [] w) := by
  have HA : Hid (∀ o : Obj, Below w.heap.size w (w.alloc o)) := fun o => (Below.refl _ _).alloc (Nat.le_refl _) o
  have H : Hid (∀ o : Obj, IntsAt (w.alloc o) v []) := fun o => RowAt.below h (HA.out o)
  obtain ⟨Z0, HZ⟩ : ∃ Z, Hid (Z = byts (List.replicate 32 0)) := ⟨_, rfl⟩
  have hmk : ∀ W : World, (Instr.makeSlice 37 (.int .i64 32) (.int .i64 32)).run Try.prog W = .ok (.slice (some ⟨W.heap.size, 0, none⟩) 32 32) (W.alloc (.cells Z0 5)) := fun W => by rw [HZ.out]; exact make32 W
  clear h
  go_enter Try.func25, Try.ntmps25
  go_wp2_with fail
  refine (right_node 0 0 0 0 0 0 0 v [] _ (H.out _) (by simp)).mono ?_
  have hr : rightN 0 0 0 0 0 0 0 [] = 0 := rfl
  rw [hr]
  rintro e w1 ⟨rfl, hb1⟩
  have hB := Below.step (HA.out _) hb1
  have k1 := heap_below hb1 (heap_alloc_new w _)
  have c0 := (node_cells k1).1
  have hlt := heap_lt k1
  have HF : Hid ((w1.alloc (.cells Z0 5)).heap[w1.heap.size]? = some (.cells (byts (packN 0 0 0 0 0 0 0 [])) 5 (0, 0))) := by
    have e : packN 0 0 0 0 0 0 0 [] = List.replicate 32 0 := by unfold packN; rw [if_pos rfl]
    rw [e, ← HZ.out]; exact heap_alloc_new _ _
  clear hb1 hr k1
  go_wp2
  go_ret2
  exact ⟨w1.heap.size, rfl, hB.size, HF.out, hB.alloc hB.size _⟩

-- GOOD
theorem byts_set (l : List Int) (i : Nat) (x : Int) : (byts l).setIfInBounds i (.int .u8 x) = byts (l.set i x) := by
  unfold byts
  rw [List.setIfInBounds_toArray, List.map_set]

theorem rightN_ok {k m u g s l up : Int} {P : List Int} (h : rightN k m u g s l up P = 0) (hk : ¬ k = 0) :
    (1 ≤ k ∧ k ≤ 3) ∧ (0 ≤ m ∧ m ≤ 511) ∧ (0 ≤ u ∧ u ≤ 255) ∧ (0 ≤ g ∧ g ≤ 255) ∧ (0 ≤ s ∧ s ≤ 512) ∧ (0 ≤ l ∧ l ≤ 200) ∧ (0 ≤ up ∧ up ≤ 32) ∧ rightE P = 0 ∧ (P.length : Int) = blocksE s := by
  unfold rightN at h
  rw [if_neg hk] at h
  by_cases h1 : k < 0 ∨ 3 < k ∨ m < 0 ∨ 511 < m ∨ u < 0 ∨ 255 < u ∨ g < 0 ∨ 255 < g ∨ l < 0 ∨ 200 < l
  · rw [if_pos h1] at h; cases h
  rw [if_neg h1] at h
  by_cases h2 : s < 0 ∨ 512 < s
  · rw [if_pos h2] at h; cases h
  rw [if_neg h2] at h
  by_cases h3 : (k = 2 ∧ (up < 1 ∨ 32 < up)) ∨ (k ≠ 2 ∧ up ≠ 0)
  · rw [if_pos h3] at h; cases h
  rw [if_neg h3] at h
  by_cases h4 : rightE P ≠ 0
  · rw [if_pos h4] at h; exact absurd h h4
  rw [if_neg h4] at h
  by_cases h5 : (P.length : Int) ≠ blocksE s
  · rw [if_pos h5] at h; cases h
  refine ⟨by omega, by omega, by omega, by omega, by omega, by omega, by omega, by omega, by omega⟩


def l5 (L : List Int) (y0 y1 y2 y3 y4 : Int) : List Int := ((((L.set 0 y0).set 1 y1).set 2 y2).set 3 y3).set 4 y4
def l4 (L : List Int) (y5 y6 y7 y8 : Int) : List Int := (((L.set 5 y5).set 6 y6).set 7 y7).set 8 y8
/-- What lies where, behind stores into one block. -/
def Stored (w : World) (b2 B b1 : Nat) (o1 o2 : Obj) (L : List Int) (W : World) : Prop :=
  W.heap[B]? = some (.cells (byts L) 5 (0, 0)) ∧ W.heap[b1]? = some o1 ∧ W.heap[b2]? = some o2 ∧ Below w.heap.size w W
theorem Stored.set {w : World} {b2 B b1 : Nat} {o1 o2 : Obj} {L : List Int} {W : World} (h : Stored w b2 B b1 o1 o2 L W) (h1 : b1 ≠ B) (h2 : b2 ≠ B) (hw : w.heap.size ≤ B) (i : Nat) (y : Int) : Stored w b2 B b1 o1 o2 (L.set i y) (W.setCell ⟨B, i, none⟩ (.int .u8 y)) := by
  refine ⟨?_, (Below.heap_setCell _ _ _ b1 h1).trans h.2.1, (Below.heap_setCell _ _ _ b2 h2).trans h.2.2.1, h.2.2.2.setCell hw _⟩
  have := heap_setCell_same _ _ i _ _ (.int .u8 y) h.1
  rw [byts_set] at this
  exact this
theorem Stored.drew {w : World} {b2 B b1 : Nat} {o1 o2 : Obj} {L : List Int} {W : World} (h : Stored w b2 B b1 o1 o2 L W) : Stored w b2 B b1 o1 o2 L W.drew := ⟨h.1, h.2.1, h.2.2.1, h.2.2.2.drew⟩
theorem stored5 {w : World} {b2 B b1 : Nat} {o1 o2 : Obj} {L : List Int} {w2 : World} (h : Stored w b2 B b1 o1 o2 L w2) (h1 : b1 ≠ B) (h2 : b2 ≠ B) (hw : w.heap.size ≤ B) (y0 y1 y2 y3 y4 : Int) : Stored w b2 B b1 o1 o2 (l5 L y0 y1 y2 y3 y4) (((((w2.setCell ⟨B, 0, none⟩ (.int .u8 y0)).setCell ⟨B, 1, none⟩ (.int .u8 y1)).setCell ⟨B, 2, none⟩ (.int .u8 y2)).setCell ⟨B, 3, none⟩ (.int .u8 y3)).setCell ⟨B, 4, none⟩ (.int .u8 y4)).drew :=
  (((((h.set h1 h2 hw 0 y0).set h1 h2 hw 1 y1).set h1 h2 hw 2 y2).set h1 h2 hw 3 y3).set h1 h2 hw 4 y4).drew
theorem stored4 {w : World} {b2 B b1 : Nat} {o1 o2 : Obj} {L : List Int} {w2 : World} (h : Stored w b2 B b1 o1 o2 L w2) (h1 : b1 ≠ B) (h2 : b2 ≠ B) (hw : w.heap.size ≤ B) (y0 y1 y2 y3 : Int) : Stored w b2 B b1 o1 o2 (l4 L y0 y1 y2 y3) ((((w2.setCell ⟨B, 5, none⟩ (.int .u8 y0)).setCell ⟨B, 6, none⟩ (.int .u8 y1)).setCell ⟨B, 7, none⟩ (.int .u8 y2)).setCell ⟨B, 8, none⟩ (.int .u8 y3)).drew :=
  ((((h.set h1 h2 hw 5 y0).set h1 h2 hw 6 y1).set h1 h2 hw 7 y2).set h1 h2 hw 8 y3).drew
theorem Stored.zero {w : World} {b2 B b1 : Nat} {o1 o2 : Obj} {y0 y1 y2 y3 y4 : Int} {W : World} (h : Stored w b2 B b1 o1 o2 (l5 (List.replicate 32 0) y0 y1 y2 y3 y4) W) (j : Nat) (h5 : 5 ≤ j) (hj : j < 32) : W.cell? ⟨B, j, none⟩ = some (.int .u8 0) := by
  rw [cell_of_row _ _ _ _ _ _ h.1]
  unfold byts l5
  rw [List.getElem?_toArray, List.getElem?_map, List.getElem?_set_ne (by omega), List.getElem?_set_ne (by omega), List.getElem?_set_ne (by omega), List.getElem?_set_ne (by omega), List.getElem?_set_ne (by omega), List.getElem?_replicate, if_pos hj]
  rfl
theorem Stored.free {w : World} {b2 B b1 : Nat} {o1 o2 : Obj} {L : List Int} {W : World} (h : Stored w b2 B b1 o1 o2 L W) (j : Nat) : W.frozen? ⟨B, j, none⟩ = false := frozen_of_row _ _ _ _ _ h.1

theorem below_setRow {B : Nat} {a w : World} (h : Below B a w) {g : Nat} (hp : B ≤ g) (cs : Array Value) : Below B a (w.setRow g cs) :=
  ⟨h.os, h.tape, h.output, by simpa using h.size, fun i hi => (setRow_other w g i cs (by omega)).trans (h.block i hi)⟩
theorem pack_fin {k m u g s l up : Int} {P : List Int} (_hp : (packL (ofE P)).length = 16) (hk : ¬ k = 0) :
    ((byts (l4 (l5 (List.replicate 32 0) k (m % 256) (m / 256) u g) (s % 256) (s / 256) l up)).toList.take 9 ++ u8s (packL (ofE P)) ++ (byts (l4 (l5 (List.replicate 32 0) k (m % 256) (m / 256) u g) (s % 256) (s / 256) l up)).toList.drop (9 + 16)).toArray = byts (packN k m u g s l up P) := by
  unfold packN
  rw [if_neg hk]
  unfold byts
  rw [List.map_append, List.map_append]
  rfl

set_option maxRecDepth 100000 in
set_option maxHeartbeats 8000000 in
theorem packN_some (k m u g s l up : Int) (v : Value) (P : List Int) (w : World) (h : IntsAt w v P) (hr : rightN k m u g s l up P = 0) (hk : ¬ k = 0) :
    Calls Try.prog 25 #[.agg #[.int .i64 k, .int .i64 m, .int .i64 u, .int .i64 g, .int .i64 s, .int .i64 l, .int .i64 up, v]] w (PackNRes k m u g s l up P w) := by
  obtain ⟨⟨k0, k1⟩, ⟨m0, m1⟩, ⟨u0, u1⟩, ⟨g0, g1⟩, ⟨s0, s1⟩, ⟨l0, l1⟩, ⟨up0, up1⟩, hrE, hbl⟩ := rightN_ok hr hk
  clear hbl
  have HA : Hid (∀ o : Obj, Below w.heap.size w (w.alloc o)) := fun o => (Below.refl _ _).alloc (Nat.le_refl _) o
  have H : Hid (∀ o : Obj, IntsAt (w.alloc o) v P) := fun o => RowAt.below h (HA.out o)
  obtain ⟨Z0, HZ⟩ : ∃ Z, Hid (Z = byts (List.replicate 32 0)) := ⟨_, rfl⟩
  have hmk : ∀ W : World, (Instr.makeSlice 37 (.int .i64 32) (.int .i64 32)).run Try.prog W = .ok (.slice (some ⟨W.heap.size, 0, none⟩) 32 32) (W.alloc (.cells Z0 5)) := fun W => by rw [HZ.out]; exact make32 W
  have HR := Lib.hid hr
  have HRE := Lib.hid hrE
  have hkb : (k == 0) = false := by simpa using hk
  have hkc : (k != 0) = true := by simpa using hk
  have HK := Lib.hid hk
  clear h hr hrE hk
  go_enter Try.func25, Try.ntmps25
  go_wp2_with fail
  refine (right_node k m u g s l up v P _ (H.out _) (by have := right_len HRE.out; omega)).mono ?_
  rw [HR.out]
  rintro e w1 ⟨rfl, hb1⟩
  have hB1 := Below.step (HA.out _) hb1
  have q1 := heap_below hb1 (heap_alloc_new w (.cells #[.int .i64 k, .int .i64 m, .int .i64 u, .int .i64 g, .int .i64 s, .int .i64 l, .int .i64 up, v] 46))
  have H1 : Hid (∀ o : Obj, IntsAt (w1.alloc o) v P) := fun o => RowAt.below (RowAt.below (H.out _) hb1) ((Below.refl _ _).alloc (Nat.le_refl _) o)
  have Q1 := Lib.hid q1
  have c0 := (node_cells q1).1
  have c7 := (node_cells q1).2.2.2.2.2.2.2
  have hlt1 : w.heap.size < w1.heap.size := heap_lt q1
  clear q1 hb1
  go_wp2_with fail
  refine (pack_good _ P _ (H1.out _) HRE.out).mono ?_
  rintro e w2 ⟨b2, rfl, hg2, hh2, hb2⟩
  have q2 := heap_below hb2 (heap_alloc_keep Q1.out (.cells Z0 5))
  have r2 := heap_below hb2 (heap_alloc_new w1 (.cells Z0 5))
  have hB2 : Below w.heap.size w w2 := Below.step (hB1.alloc hB1.size _) hb2
  have HH2 := Lib.hid hh2
  have hg2' : w1.heap.size < b2 := by have : (w1.alloc (.cells Z0 5)).heap.size = w1.heap.size + 1 := by simp
                                      omega
  have hlt2 : w1.heap.size < w2.heap.size := heap_lt r2
  obtain ⟨B, HB⟩ : ∃ B, Hid (B = w1.heap.size) := ⟨_, rfl⟩
  rw [← HB.out] at r2 hlt2 hg2' ⊢
  have R2 := Lib.hid r2
  have HST : Hid (Stored w b2 B w.heap.size (.cells #[.int .i64 k, .int .i64 m, .int .i64 u, .int .i64 g, .int .i64 s, .int .i64 l, .int .i64 up, v] 46 (0, 0)) (.cells (byts (packL (ofE P))) 5 (0, 0)) (List.replicate 32 0) w2) := ⟨by rw [← HZ.out]; exact r2, q2, HH2.out, hB2⟩
  obtain ⟨d0, d1, d2, d3, d4, d5, d6, d7⟩ := node_cells q2
  have hne : ¬ w.heap.size = B := by rw [HB.out]; omega
  have hBw : w.heap.size ≤ B := by rw [HB.out]; omega
  have hcx : ∀ j, j < 32 → w2.cell? ⟨B, j, none⟩ = some (.int .u8 0) := fun j hj => by
    rw [cell_of_row _ _ _ _ _ _ R2.out, HZ.out]
    unfold byts
    rw [List.getElem?_toArray, List.getElem?_map, List.getElem?_replicate, if_pos hj]
    rfl
  have x0 := hcx 0 (by omega)
  have x1 := hcx 1 (by omega)
  have x2 := hcx 2 (by omega)
  have x3 := hcx 3 (by omega)
  have x4 := hcx 4 (by omega)
  have fz : ∀ j, w2.frozen? ⟨B, j, none⟩ = false := fun j => frozen_of_row _ _ _ _ _ R2.out
  have f0 := fz 0
  have f1 := fz 1
  have f2 := fz 2
  have f3 := fz 3
  have f4 := fz 4
  clear c0 c7 r2 q2 hh2 hb2 hcx fz hmk hg2 hB2 hB1 R2 HH2 Q1 H1 HA H hlt1
  go_upto_region 10 with fail
  go_cut [5] (fun s5 wx => s5 = .slice (some ⟨B, 0, none⟩) 32 32 ∧ Hid (Stored w b2 B w.heap.size (.cells #[.int .i64 k, .int .i64 m, .int .i64 u, .int .i64 g, .int .i64 s, .int .i64 l, .int .i64 up, v] 46 (0, 0)) (.cells (byts (packL (ofE P))) 5 (0, 0)) (l5 (List.replicate 32 0) k (m % 256) (m / 256) u g) wx))
  case first =>
    go_region
    all_goals
      go_wp2_with fail
      go_meet
      case rel => exact ⟨rfl, stored5 HST.out hne (by omega) hBw k (m % 256) (m / 256) u g⟩
  case rest =>
    obtain ⟨rfl, HS5⟩ := hcut
    clear d0 d1 d2 d3 d4 d5 d6 d7 x0 x1 x2 x3 x4 f0 f1 f2 f3 f4 HST
    obtain ⟨d0, d1, d2, d3, d4, d5, d6, d7⟩ := node_cells HS5.out.2.1
    have x5 := HS5.out.zero 5 (by omega) (by omega)
    have x6 := HS5.out.zero 6 (by omega) (by omega)
    have x7 := HS5.out.zero 7 (by omega) (by omega)
    have x8 := HS5.out.zero 8 (by omega) (by omega)
    have f5 := HS5.out.free 5
    have f6 := HS5.out.free 6
    have f7 := HS5.out.free 7
    have f8 := HS5.out.free 8
    go_upto_region 11 with fail
    go_cut [5] (fun s5 wx => s5 = .slice (some ⟨B, 0, none⟩) 32 32 ∧ Hid (Stored w b2 B w.heap.size (.cells #[.int .i64 k, .int .i64 m, .int .i64 u, .int .i64 g, .int .i64 s, .int .i64 l, .int .i64 up, v] 46 (0, 0)) (.cells (byts (packL (ofE P))) 5 (0, 0)) (l4 (l5 (List.replicate 32 0) k (m % 256) (m / 256) u g) (s % 256) (s / 256) l up) wx))
    case first =>
      go_region
      all_goals
        go_wp2_with fail
        go_meet
        case rel => exact ⟨rfl, stored4 HS5.out hne (by omega) hBw (s % 256) (s / 256) l up⟩
    case rest =>
      obtain ⟨rfl, HS9⟩ := hcut
      clear d0 d1 d2 d3 d4 d5 d6 d7 x5 x6 x7 x8 f5 f6 f7 f8 HS5
      go_wp2_with fail
      have hpl : (packL (ofE P)).length = 16 := packOf_len HRE.out
      have hrow := run_copy_row (P := Try.prog) wc 37 37 3 5 B 9 23 23 ⟨b2, 0, none⟩ 16 16 _ 5 (u8s (packL (ofE P))) (by kernel_rfl) (by kernel_rfl) HS9.out.1 (by rw [u8s_len, hpl]; rfl)
        (fun j x hx => by
          have hadd : (⟨b2, 0, none⟩ : Addr).add j = ⟨b2, j, none⟩ := by unfold Addr.add; split <;> simp_all
          rw [hadd, cell_of_row _ _ _ _ _ _ HS9.out.2.2.1]
          unfold byts
          rw [List.getElem?_toArray]
          exact hx) (by rw [u8s_len, hpl]; simp [byts, l4, l5]) (u8s_one _)
      rw [u8s_len, hpl, pack_fin hpl HK.out] at hrow
      have HP : Hid (PackNRes k m u g s l up P w (.returned (.tuple #[.slice (some ⟨B, 0, none⟩) 32 32, .int .i64 0])) (wc.setRow B (byts (packN k m u g s l up P)))) :=
        ⟨B, rfl, hBw, setRow_heap _ _ _ _ _ _ HS9.out.1, below_setRow HS9.out.2.2.2 hBw _⟩
      rw [hrow]
      clear hrow hpl
      go_wp2
      go_ret2
      exact HP.out

end Go.Proofs.Ytneknlbmiofmlaa
