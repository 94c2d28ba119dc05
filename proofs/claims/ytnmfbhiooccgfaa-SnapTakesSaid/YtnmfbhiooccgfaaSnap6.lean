/- Pack: a forest in three sectors. -/
import Derived.Test.YtnmfbhiooccgfaaSnap5
import Derived.Test.YtnmfbhiooccgfaaU8
import Derived.Laws.AppendOwn
namespace Go.Proofs.Ytnmfbhiooccgfaa
open Go.RowKit

def Ln (f : Fo) : List Int := (List.range 64).map fun m => f.nd (m / 16) (m % 16)
def Ls (f : Fo) : List Int := (List.range 128).map fun m => (byteAt (f.hs (m / 32)) (m % 32) : Int)
def packF (f : Fo) : List Int := Ln f ++ Ls f
theorem Ln_len (f : Fo) : (Ln f).length = 64 := by simp [Ln]
theorem Ls_len (f : Fo) : (Ls f).length = 128 := by simp [Ls]
theorem packF_len (f : Fo) : (packF f).length = 192 := by simp [packF, Ln_len, Ls_len]
theorem Ln_get (f : Fo) (k i : Nat) (hk : k < 4) (hi : i < 16) : (Ln f)[k * 16 + i]? = some (f.nd k i) := by
  unfold Ln
  rw [List.getElem?_map, List.getElem?_range (by omega)]
  simp only [Option.map_some]
  rw [show (k * 16 + i) / 16 = k by omega, show (k * 16 + i) % 16 = i by omega]
theorem Ls_get (f : Fo) (k i : Nat) (hk : k < 4) (hi : i < 32) : (Ls f)[k * 32 + i]? = some (byteAt (f.hs k) i : Int) := by
  unfold Ls
  rw [List.getElem?_map, List.getElem?_range (by omega)]
  simp only [Option.map_some]
  rw [show (k * 32 + i) / 32 = k by omega, show (k * 32 + i) % 32 = i by omega]
theorem take_one {α : Type} (l : List α) (n : Nat) (x : α) (h : l[n]? = some x) : l.take (n + 1) = l.take n ++ [x] := by
  obtain ⟨hn, rfl⟩ := List.getElem?_eq_some_iff.1 h
  rw [List.take_append_getElem hn]
def setL (f : Fo) (k : Nat) : List Int := (List.range 32).map fun i => (byteAt (f.hs k) i : Int)
theorem Ls_take (f : Fo) (k : Nat) (hk : k < 4) : (Ls f).take ((k + 1) * 32) = (Ls f).take (k * 32) ++ setL f k := by
  apply List.ext_getElem?
  intro i
  have hl : ((Ls f).take (k * 32)).length = k * 32 := by rw [List.length_take, Ls_len]; omega
  by_cases h1 : i < k * 32
  · rw [List.getElem?_append_left (by omega), List.getElem?_take, List.getElem?_take, if_pos h1, if_pos (by omega)]
  · rw [List.getElem?_append_right (by omega), hl, List.getElem?_take]
    by_cases h2 : i < (k + 1) * 32
    · rw [if_pos h2]
      obtain ⟨j, rfl⟩ : ∃ j, i = k * 32 + j := ⟨i - k * 32, by omega⟩
      rw [Ls_get f k j hk (by omega), show k * 32 + j - k * 32 = j by omega]
      unfold setL
      rw [List.getElem?_map, List.getElem?_range (by omega)]
      rfl
    · rw [if_neg h2, List.getElem?_eq_none (by simp [setL]; omega)]
theorem setL_len (f : Fo) (k : Nat) : (setL f k).length = 32 := by simp [setL]
theorem right_nodes {f : Fo} (h : rightF f = 0) (k i : Nat) (hk : k < 4) (hi : i < 16) : 0 ≤ f.nd k i ∧ f.nd k i ≤ 255 := by
  have key : badN f k = false := by
    cases hb : badN f k with
    | false => rfl
    | true =>
      exfalso
      unfold rightF at h
      by_cases h0 : badN f 0 = true
      · rw [if_pos h0] at h; cases h
      rw [if_neg h0] at h
      by_cases t0 : badT f 0 = true
      · rw [if_pos t0] at h; cases h
      rw [if_neg t0] at h
      by_cases h1 : badN f 1 = true
      · rw [if_pos h1] at h; cases h
      rw [if_neg h1] at h
      by_cases t1 : badT f 1 = true
      · rw [if_pos t1] at h; cases h
      rw [if_neg t1] at h
      by_cases h2 : badN f 2 = true
      · rw [if_pos h2] at h; cases h
      rw [if_neg h2] at h
      by_cases t2 : badT f 2 = true
      · rw [if_pos t2] at h; cases h
      rw [if_neg t2] at h
      by_cases h3 : badN f 3 = true
      · rw [if_pos h3] at h; cases h
      match k, hk with
      | 0, _ => exact h0 hb
      | 1, _ => exact h1 hb
      | 2, _ => exact h2 hb
      | 3, _ => exact h3 hb
  have : badP' (f.nd k i) = false := by
    cases hb : badP' (f.nd k i) with
    | false => rfl
    | true => rw [badN_of hi hb] at key; cases key
  simp [badP'] at this
  omega

theorem u8Info : (Try.prog.info? 5).map (fun i => (i.zero, i.size, i.bytes)) = some (some (.int .u8 0), 1, 1) := by kernel_rfl
theorem u8sT : Try.prog.underlying 52 = some (.slice 5) := by kernel_rfl

set_option maxRecDepth 100000 in
set_option maxHeartbeats 1000000 in
theorem packF_bad (f : Fo) (A : Array Value) (c : Int) (HA : Hid (A = encF f)) (Hc : Hid (c = rightF f)) (hc0 : (c != 0) = true) (w : World) :
    Calls Try.prog 29 #[.agg A] w fun e w' => e = .returned (.tuple #[.slice none 0 0, .int .i64 c]) ∧ Below w.heap.size w w' := by
  have HAS : Hid (A.size = 192) := by rw [HA.out]; exact encF_size f
  have HRC : Hid (∀ W : World, Calls Try.prog 31 #[.agg A] W fun e w' => e = .returned (.int .i64 c) ∧ Below W.heap.size W w') := fun W => by rw [HA.out, Hc.out]; exact rightF_any f W
  go_enter Try.func29, Try.ntmps29
  go_wp2_with (refine wpList_load_row rfl 42 (.tmp 1) rfl w.heap.size rfl 42 A (0, 0) _ (heap_alloc_new w _) forT rfl (by rw [HAS.out]; exact forI) ?_)
  refine (HRC.out _).mono ?_
  rintro e w1 ⟨rfl, hb1⟩
  have hB1 : Below w.heap.size w w1 := Below.step ((Below.refl _ _).alloc (Nat.le_refl _) _) hb1
  clear hb1
  go_wp2
  go_ret2
  exact ⟨rfl, hB1⟩

def PackFRes (f : Fo) (w : World) (e : Ending) (w' : World) : Prop :=
  ∃ v, e = .returned (.tuple #[v, .int .i64 0]) ∧ w'.ownsRow (w.heap.size + 1) 5 1 v 192 (u8s (packF f)) ∧ Below w.heap.size w w'

set_option maxRecDepth 100000 in
set_option maxHeartbeats 4000000 in
theorem packF_raw (f : Fo) (A : Array Value) (HA : Hid (A = encF f)) (hr : rightF f = 0) (w : World) :
    Calls Try.prog 29 #[.agg A] w (PackFRes f w) := by
  have HAS : Hid (A.size = 192) := by rw [HA.out]; exact encF_size f
  have HRN := Lib.hid (fun k i hk hi => right_nodes hr k i hk hi)
  have HRC : Hid (∀ W : World, Calls Try.prog 31 #[.agg A] W fun e w' => e = .returned (.int .i64 0) ∧ Below W.heap.size W w') := fun W => by rw [HA.out, ← hr]; exact rightF_any f W
  obtain ⟨i0, hi, hz0, hz1, hz2⟩ := info_parts u8Info
  have HI := Lib.hid hi
  have HZ0 := Lib.hid hz0
  have HZ1 := Lib.hid hz1
  have HZ2 := Lib.hid hz2
  clear hi hz0 hz1 hz2 hr
  go_enter Try.func29, Try.ntmps29
  go_wp2_with (refine wpList_load_row rfl 42 (.tmp 1) rfl w.heap.size rfl 42 A (0, 0) _ (heap_alloc_new w _) forT rfl (by rw [HAS.out]; exact forI) ?_)
  refine (HRC.out _).mono ?_
  rintro e w1 ⟨rfl, hb1⟩
  have hB1 : Below w.heap.size w w1 := Below.step ((Below.refl _ _).alloc (Nat.le_refl _) _) hb1
  have HF1 : Hid (w1.heap[w.heap.size]? = some (.cells A 42 (0, 0))) := heap_below hb1 (heap_alloc_new w _)
  clear hb1
  go_wp2
  go_loopw [5, 15] (fun v i wr => ∃ k : Nat, k ≤ 4 ∧ i = .int .i64 k ∧ Hid (wr.ownsRow (w.heap.size + 1) 5 1 v (k * 16) (u8s ((Ln f).take (k * 16)))) ∧ Hid (wr.heap[w.heap.size]? = some (.cells A 42 (0, 0))) ∧ Below w.heap.size w wr) (fun _ i _ => 4 - (intOf i).toNat)
  case atStart => exact ⟨0, by omega, rfl, World.ownsRow_nil _ _ _ _, HF1, hB1⟩
  case round =>
    obtain ⟨k, hk, rfl, HO, HF, HB⟩ := hrel
    by_cases hlt : k < 4
    · have hlt2 : (k : Int) < 4 := by omega
      have hk0 : (0 : Int) ≤ (k : Int) := by omega
      obtain ⟨NN, HNN⟩ : ∃ N, Hid (N = encN f k) := ⟨_, rfl⟩
      have HNS : Hid (NN.size = 16) := by rw [HNN.out]; exact encN_size _ _
      have HNP : Hid (∀ j, j < NN.size → A[k * 48 + j]? = NN[j]?) := by rw [HNN.out, HA.out]; exact part_nodes f k hlt
      obtain ⟨wo, hwo⟩ : ∃ wo : World, wo = wr := ⟨_, rfl⟩
      subst hwo
      obtain ⟨vo, hvo⟩ : ∃ vo : Value, vo = u5 := ⟨_, rfl⟩
      subst hvo
      go_wp2_with (refine wpList_load_part (by kernel_rfl) 38 (.tmp 20) rfl w.heap.size (k * 48) rfl 42 A NN (0, 0) _ HF.out HNP.out nodesT rfl (by rw [HNS.out]; exact nodesI) ?_)
      go_loopw [5, 22] (fun v i wr => ∃ j : Nat, j ≤ 16 ∧ i = .int .i64 j ∧ Hid (wr.ownsRow (w.heap.size + 1) 5 1 v (k * 16 + j) (u8s ((Ln f).take (k * 16 + j)))) ∧ Hid (wr.heap[w.heap.size]? = some (.cells A 42 (0, 0))) ∧ Below w.heap.size w wr) (fun _ i _ => 16 - (intOf i).toNat)
      case atStart => exact ⟨0, by omega, rfl, HO, HF, HB⟩
      case round =>
        obtain ⟨j, hj, rfl, HO', HF', HB'⟩ := hrel
        by_cases hjl : j < 16
        · have hjl2 : (j : Int) < 16 := by omega
          obtain ⟨x, Hx⟩ : ∃ x, Hid (x = f.nd k j) := ⟨_, rfl⟩
          have hx := HRN.out k j hlt hjl
          rw [← Hx.out] at hx
          obtain ⟨hx0, hx1⟩ := hx
          have hidx : ∀ W : World, (Instr.index 38 (.agg NN) (.int .i64 (j : Int))).run Try.prog W = .ok (.int .i64 x) W := fun W =>
            run_index_arr _ _ 16 .i64 NN .i64 (j : Int) nodesT intT intS (by omega) (by omega) _ (by
              rw [Int.toNat_natCast, HNN.out, encN_get f k j hjl, Hx.out]
              unfold cellF
              rw [if_pos hjl]) W
          have hsz : w.heap.size < wr.heap.size := heap_lt HF'.out
          obtain ⟨q, cq, hv, _⟩ := owns_slice HO'.out
          subst hv
          have hlt' := (HO'.out.alloc (.cells #[.int .u8 x] 5)).lt
          go_wp2_with (at_builtin; refine wpList_append_own _ rfl _ _ 52 rfl (w.heap.size + 1) 5 i0 (.int .u8 0) 1 1 u8sT HI.out HZ0.out HZ1.out HZ2.out rfl (by decide) _ _ _ rfl (HO'.out.alloc _) ⟨wr.heap.size, 0, none⟩ 1 1 [.int .u8 x] rfl rfl (fun j u hu => new_cells _ #[.int .u8 x] _ j u hu) (fun u hu => by simp at hu; subst hu; rfl) (by unfold maxLen; omega) (by omega) (by simp; omega) ?_; intro v' w4 hown hgrow _)
          have HO4 : Hid (w4.ownsRow (w.heap.size + 1) 5 1 v' (k * 16 + (j + 1)) (u8s ((Ln f).take (k * 16 + (j + 1))))) := by
            rw [← Nat.add_assoc, take_one (Ln f) (k * 16 + j) x (by rw [Hx.out]; exact Ln_get f k j hlt hjl), u8s_append]
            exact hown
          have HF4 : Hid (w4.heap[w.heap.size]? = some (.cells A 42 (0, 0))) := (hgrow.block w.heap.size (by simp; omega) (fun e => by have := (hlt' w.heap.size e.symm).1; omega)).trans (heap_alloc_keep HF'.out _)
          have HB4 : Below w.heap.size w w4 := Below.grown (HB'.alloc HB'.size _) hgrow (by simp; omega) (fun r hr => by have := (hlt' r hr).1; omega)
          clear hown hgrow hlt'
          go_wp2
          go_roundw
          case rel => exact ⟨j + 1, by omega, by go_num, HO4, HF4, HB4⟩
          case measure => simp [intOf]; omega
        · obtain rfl : j = 16 := by omega
          go_wp2
          go_roundw
          case rel => exact ⟨k + 1, by omega, by go_num, by rw [show (k + 1) * 16 = k * 16 + 16 by omega]; exact HO', HF', HB'⟩
          case measure => simp [intOf]; omega
    · have HK4 : Hid (k = 4) := by show _ = _; omega
      have hk42 : ¬ (k : Int) < 4 := by omega
      obtain ⟨k0, hk0e⟩ : ∃ k0 : Nat, k0 = k := ⟨_, rfl⟩
      subst hk0e
      have HO2 : Hid (wr.ownsRow (w.heap.size + 1) 5 1 u5 (64 + 0 * 32) (u8s (Ln f ++ (Ls f).take (0 * 32)))) := by
        have := HO.out
        rw [HK4.out] at this
        rw [List.take_of_length_le (by rw [Ln_len]; omega)] at this
        rw [Nat.zero_mul, List.take_zero, List.append_nil]
        exact this
      clear HO
      obtain ⟨vo, hvo⟩ : ∃ vo : Value, vo = u5 := ⟨_, rfl⟩
      subst hvo
      obtain ⟨wo, hwo⟩ : ∃ wo : World, wo = wr := ⟨_, rfl⟩
      subst hwo
      go_wp2
      go_loopw [5, 32] (fun v i wr => ∃ k : Nat, k ≤ 4 ∧ i = .int .i64 k ∧ Hid (wr.ownsRow (w.heap.size + 1) 5 1 v (64 + k * 32) (u8s (Ln f ++ (Ls f).take (k * 32)))) ∧ Hid (wr.heap[w.heap.size]? = some (.cells A 42 (0, 0))) ∧ Below w.heap.size w wr) (fun _ i _ => 4 - (intOf i).toNat)
      case atStart => exact ⟨0, by omega, rfl, HO2, HF, HB⟩
      case round =>
        obtain ⟨k, hk, rfl, HO', HF', HB'⟩ := hrel
        by_cases hlt : k < 4
        · have hlt2 : (k : Int) < 4 := by omega
          have hk0 : (0 : Int) ≤ (k : Int) := by omega
          have hsz : w.heap.size < wr.heap.size := heap_lt HF'.out
          have HSC : Hid (∀ (j : Nat) (u : Value), (u8s (setL f k))[j]? = some u → wr.cell? ((⟨w.heap.size, k * 48 + 16, none⟩ : Addr).add j) = some u) := fun j u hu => by
            have hj := (List.getElem?_eq_some_iff.1 hu).1
            rw [u8s_len, setL_len] at hj
            have hadd : (⟨w.heap.size, k * 48 + 16, none⟩ : Addr).add j = ⟨w.heap.size, k * 48 + 16 + j, none⟩ := by unfold Addr.add; split <;> simp_all
            rw [hadd, cell_of_row _ _ _ _ _ _ HF'.out, HA.out, part_has f k hlt j (by rw [enc_size]; exact hj), enc_get _ _ hj, ← hu]
            unfold u8s setL
            rw [List.getElem?_map, List.getElem?_map, List.getElem?_range hj]
            rfl
          obtain ⟨q, cq, hv, _⟩ := owns_slice HO'.out
          subst hv
          have hlt' := HO'.out.lt
          go_wp2_with (at_builtin; refine wpList_append_own _ rfl _ _ 52 rfl (w.heap.size + 1) 5 i0 (.int .u8 0) 1 1 u8sT HI.out HZ0.out HZ1.out HZ2.out rfl (by decide) _ _ _ rfl HO'.out ⟨w.heap.size, k * 48 + 16, none⟩ 32 32 (u8s (setL f k)) rfl (by rw [u8s_len, setL_len]) HSC.out (u8s_one _) (by unfold maxLen; omega) (by omega) (by omega) ?_; intro v' w4 hown hgrow _)
          have HO4 : Hid (w4.ownsRow (w.heap.size + 1) 5 1 v' (64 + (k + 1) * 32) (u8s (Ln f ++ (Ls f).take ((k + 1) * 32)))) := by
            rw [Ls_take f k hlt, ← List.append_assoc, u8s_append, show 64 + (k + 1) * 32 = 64 + k * 32 + 32 by omega]
            exact hown
          have HF4 : Hid (w4.heap[w.heap.size]? = some (.cells A 42 (0, 0))) := (hgrow.block w.heap.size (by omega) (fun e => by have := (hlt' w.heap.size e.symm).1; omega)).trans HF'.out
          have HB4 : Below w.heap.size w w4 := Below.grown HB' hgrow (by omega) (fun r hr => by have := (hlt' r hr).1; omega)
          clear hown hgrow hlt'
          go_wp2
          go_roundw
          case rel => exact ⟨k + 1, by omega, by go_num, HO4, HF4, HB4⟩
          case measure => simp [intOf]; omega
        · obtain rfl : k = 4 := by omega
          have HFIN : Hid (wr.ownsRow (w.heap.size + 1) 5 1 u5 192 (u8s (packF f))) := by
            have := HO'.out
            rw [List.take_of_length_le (by rw [Ls_len]; omega)] at this
            exact this
          clear HO'
          go_wp2
          go_ret2
          exact ⟨_, rfl, HFIN.out, HB'⟩
theorem packF_good (f : Fo) (hr : rightF f = 0) (w : World) : Calls Try.prog 29 #[.agg (encF f)] w (PackFRes f w) := packF_raw f _ rfl hr w

end Go.Proofs.Ytnmfbhiooccgfaa
