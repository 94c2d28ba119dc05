/- Right: what is wrong with a forest. -/
import Derived.Test.YtnmfbhiooccgfaaSnap4
namespace Go.Proofs.Ytnmfbhiooccgfaa
open Go.RowKit

def badP' (x : Int) : Bool := decide (x < 0) || decide (256 ≤ x)
def badN (f : Fo) (k : Nat) : Bool := (List.range 16).any fun i => badP' (f.nd k i)
/-- Is a tree the one that has nothing? -/
def noneT (f : Fo) (k : Nat) : Bool := sameCells (encT f k) (encT zeroF 0) 0 48
def badT (f : Fo) (k : Nat) : Bool := !thereB f k && !noneT f k
def rightF (f : Fo) : Int := if badN f 0 = true then 1 else if badT f 0 = true then 3 else if badN f 1 = true then 1 else if badT f 1 = true then 3 else if badN f 2 = true then 1 else if badT f 2 = true then 3 else if badN f 3 = true then 1 else if badT f 3 = true then 3 else 0
def fineT (f : Fo) (k : Nat) : Prop := badN f k = false ∧ badT f k = false
theorem rightF_nodes {f : Fo} {k : Nat} (hk : k < 4) (hj : ∀ j, j < k → fineT f j) (h : badN f k = true) : rightF f = 1 := by
  unfold rightF
  match k, hk with
  | 0, _ => rw [if_pos h]
  | 1, _ =>
    have a := hj 0 (by omega)
    rw [a.1, a.2, if_neg (by simp), if_neg (by simp), if_pos h]
  | 2, _ =>
    have a := hj 0 (by omega)
    have b := hj 1 (by omega)
    rw [a.1, a.2, b.1, b.2, if_neg (by simp), if_neg (by simp), if_neg (by simp), if_neg (by simp), if_pos h]
  | 3, _ =>
    have a := hj 0 (by omega)
    have b := hj 1 (by omega)
    have c := hj 2 (by omega)
    rw [a.1, a.2, b.1, b.2, c.1, c.2, if_neg (by simp), if_neg (by simp), if_neg (by simp), if_neg (by simp), if_neg (by simp), if_neg (by simp), if_pos h]
theorem rightF_tree {f : Fo} {k : Nat} (hk : k < 4) (hj : ∀ j, j < k → fineT f j) (hn : badN f k = false) (h : badT f k = true) : rightF f = 3 := by
  unfold rightF
  match k, hk with
  | 0, _ => rw [hn, if_neg (by simp), if_pos h]
  | 1, _ =>
    have a := hj 0 (by omega)
    rw [a.1, a.2, hn, if_neg (by simp), if_neg (by simp), if_neg (by simp), if_pos h]
  | 2, _ =>
    have a := hj 0 (by omega)
    have b := hj 1 (by omega)
    rw [a.1, a.2, b.1, b.2, hn, if_neg (by simp), if_neg (by simp), if_neg (by simp), if_neg (by simp), if_neg (by simp), if_pos h]
  | 3, _ =>
    have a := hj 0 (by omega)
    have b := hj 1 (by omega)
    have c := hj 2 (by omega)
    rw [a.1, a.2, b.1, b.2, c.1, c.2, hn, if_neg (by simp), if_neg (by simp), if_neg (by simp), if_neg (by simp), if_neg (by simp), if_neg (by simp), if_neg (by simp), if_pos h]
theorem rightF_good {f : Fo} (hj : ∀ j, j < 4 → fineT f j) : rightF f = 0 := by
  unfold rightF
  have a := hj 0 (by omega)
  have b := hj 1 (by omega)
  have c := hj 2 (by omega)
  have d := hj 3 (by omega)
  rw [a.1, a.2, b.1, b.2, c.1, c.2, d.1, d.2, if_neg (by simp), if_neg (by simp), if_neg (by simp), if_neg (by simp), if_neg (by simp), if_neg (by simp), if_neg (by simp), if_neg (by simp)]
theorem badN_of {f : Fo} {k i : Nat} (hi : i < 16) (h : badP' (f.nd k i) = true) : badN f k = true := by
  unfold badN
  rw [List.any_eq_true]
  exact ⟨i, List.mem_range.2 hi, h⟩
theorem badN_not {f : Fo} {k : Nat} (h : ∀ i, i < 16 → badP' (f.nd k i) = false) : badN f k = false := by
  cases hb : badN f k with
  | false => rfl
  | true =>
    unfold badN at hb
    rw [List.any_eq_true] at hb
    obtain ⟨i, hi, hb⟩ := hb
    rw [h i (List.mem_range.1 hi)] at hb
    cases hb

theorem intCells_trees (f g : Fo) (k j : Nat) : IntCells (encT f k) (encT g j) 0 48 := fun i hi => by
  rw [Nat.zero_add, encT_get f k i hi, encT_get g j i hi]
  unfold cellF
  by_cases h : i < 16
  · rw [if_pos h, if_pos h]; exact ⟨_, _, _, rfl, rfl⟩
  · rw [if_neg h, if_neg h]; exact ⟨_, _, _, rfl, rfl⟩
theorem intS : (Try.prog.info? 3).map (·.size) = some 1 := by kernel_rfl
theorem intT : Try.prog.underlying 3 = some (.int .i64) := by kernel_rfl
theorem nodesT : Try.prog.underlying 38 = some (.array 16 3) := by kernel_rfl
theorem eqNodes : EqParts Try.prog 9999 38 (16 * 1) := eqParts_array (d := 9998) nodesT intS (by kernel_rfl) (eqParts_int (d := 9997) intT)
theorem eqSets : EqParts Try.prog 9999 23 (32 * 1) := eqParts_array (d := 9998) setT byteI (by kernel_rfl) (eqParts_int (d := 9997) byteT)
theorem run_eq_trees (f g : Fo) (k j : Nat) (w : World) : (Op.equalIn 10000 40 (.agg (encT f k)) (.agg (encT g j))).run Try.prog w = .ok (sameCells (encT f k) (encT g j) 0 48) w :=
  run_equalIn_two (d := 9999) Try.underlying40 (by kernel_rfl) (by decide) (by decide) rfl rfl eqNodes eqSets _ _ w (intCells_trees f g k j)
theorem treeZ : ∀ w, (zeroValue 40).run Try.prog w = .ok (.agg (encT zeroF 0)) w := (zero_of_info (P := Try.prog) (t := 40) (v := .agg (encT zeroF 0)) (n := 48) (by kernel_rfl)).1

set_option maxRecDepth 100000 in
set_option maxHeartbeats 4000000 in
theorem right_raw (f : Fo) (A : Array Value) (c : Int) (HA : Hid (A = encF f)) (Hc : Hid (c = rightF f)) (w : World) :
    Calls Try.prog 31 #[.agg A] w fun e w' => e = .returned (.int .i64 c) ∧ Below w.heap.size w w' := by
  have HAS : Hid (A.size = 192) := by rw [HA.out]; exact encF_size f
  obtain ⟨ZT, HZT⟩ : ∃ Z, Hid (Z = encT zeroF 0) := ⟨_, rfl⟩
  have HZ : Hid (∀ w, (zeroValue 40).run Try.prog w = .ok (.agg ZT) w) := by rw [HZT.out]; exact treeZ
  have HTH : Hid (∀ (k : Nat) (W : World), k < 4 → Calls Try.prog 24 #[.agg A, .int .i64 (k : Int)] W fun e w' => e = .returned (.bool (thereB f k)) ∧ Below W.heap.size W w') := fun k W hk => by rw [HA.out]; exact there_in f k W hk
  go_enter Try.func31, Try.ntmps31
  go_wp2
  go_loopw [6] (fun i wr => ∃ k : Nat, k ≤ 4 ∧ i = .int .i64 k ∧ Hid (∀ j, j < k → fineT f j) ∧ Hid (wr.heap[w.heap.size]? = some (.cells A 42 (0, 0))) ∧ Below w.heap.size w wr) (fun i _ => 4 - (intOf i).toNat)
  case atStart => exact ⟨0, by omega, rfl, fun j h => by omega, heap_alloc_new _ _, (Below.refl _ _).alloc (Nat.le_refl _) _⟩
  case round =>
    obtain ⟨k, hk, rfl, HK, HF, HB⟩ := hrel
    by_cases hlt : k < 4
    · have hlt2 : (k : Int) < 4 := by omega
      have hk0 : (0 : Int) ≤ (k : Int) := by omega
      obtain ⟨NN, HNN⟩ : ∃ N, Hid (N = encN f k) := ⟨_, rfl⟩
      have HNS : Hid (NN.size = 16) := by rw [HNN.out]; exact encN_size _ _
      have HNP : Hid (∀ j, j < NN.size → A[k * 48 + j]? = NN[j]?) := by rw [HNN.out, HA.out]; exact part_nodes f k hlt
      obtain ⟨wo, hwo⟩ : ∃ wo : World, wo = wr := ⟨_, rfl⟩
      subst hwo
      go_wp2_with (refine wpList_load_part (by kernel_rfl) 38 (.tmp 11) rfl w.heap.size (k * 48) rfl 42 A NN (0, 0) _ HF.out HNP.out nodesT rfl (by rw [HNS.out]; exact nodesI) ?_)
      go_loop [13] (fun i => ∃ j : Nat, j ≤ 16 ∧ i = .int .i64 j ∧ Hid (∀ a, a < j → badP' (f.nd k a) = false)) (fun i => 16 - (intOf i).toNat)
      case atStart => exact ⟨0, by omega, rfl, fun a h => by omega⟩
      case round =>
        obtain ⟨j, hj, rfl, HJ⟩ := hrel
        by_cases hjl : j < 16
        · have hjl2 : (j : Int) < 16 := by omega
          obtain ⟨x, Hx⟩ : ∃ x, Hid (x = f.nd k j) := ⟨_, rfl⟩
          have hidx : ∀ W : World, (Instr.index 38 (.agg NN) (.int .i64 (j : Int))).run Try.prog W = .ok (.int .i64 x) W := fun W =>
            run_index_arr _ _ 16 .i64 NN .i64 (j : Int) nodesT intT intS (by omega) (by omega) _ (by
              rw [Int.toNat_natCast, HNN.out, encN_get f k j hjl, Hx.out]
              unfold cellF
              rw [if_pos hjl]) W
          by_cases x0 : x < 0
          · have HE : Hid (c = 1) := by rw [Hc.out]; exact rightF_nodes hlt HK.out (badN_of hjl (by rw [← Hx.out]; simp [badP', x0]))
            go_wp2
            go_ret
            rw [HE.out]
            exact ⟨rfl, HB⟩
          · by_cases x1 : 256 ≤ x
            · have HE : Hid (c = 1) := by rw [Hc.out]; exact rightF_nodes hlt HK.out (badN_of hjl (by rw [← Hx.out]; simp [badP', x1]))
              go_wp2
              go_ret
              rw [HE.out]
              exact ⟨rfl, HB⟩
            · have HJ2 : Hid (∀ a, a < j + 1 → badP' (f.nd k a) = false) := fun a ha => by
                by_cases e : a = j
                · rw [e, ← Hx.out]; simp [badP', x0, x1]
                · exact HJ.out a (by omega)
              go_wp2
              go_round
              case rel => exact ⟨j + 1, by omega, by go_num, HJ2⟩
              case measure => simp [intOf]; omega
        · obtain rfl : j = 16 := by omega
          have HBN : Hid (badN f k = false) := badN_not HJ.out
          obtain ⟨T, HT⟩ : ∃ T, Hid (T = encT f k) := ⟨_, rfl⟩
          have HTS : Hid (T.size = 48) := by rw [HT.out]; exact encT_size _ _
          have HTP : Hid (∀ j, j < T.size → A[k * 48 + j]? = T[j]?) := by rw [HT.out, HA.out]; exact part_tree f k hlt
          have HEQ : Hid (∀ W : World, (Op.equalIn 10000 40 (.agg T) (.agg ZT)).run Try.prog W = .ok (noneT f k) W) := fun W => by rw [HT.out, HZT.out]; exact run_eq_trees f zeroF k 0 W
          go_wp2_with (refine wpList_load_row rfl 42 (.tmp 1) rfl w.heap.size rfl 42 A (0, 0) _ HF.out forT rfl (by rw [HAS.out]; exact forI) ?_)
          refine (HTH.out k _ hlt).mono ?_
          cases hth : thereB f k with
          | true =>
            rintro e w2 ⟨rfl, hb2⟩
            have HF2 := Lib.hid (heap_below hb2 HF.out)
            have hB2 := Below.step HB hb2
            have HK2 : Hid (∀ j, j < k + 1 → fineT f j) := fun j h2 => by
              by_cases e : j = k
              · rw [e]; exact ⟨HBN.out, by unfold badT; rw [hth]; rfl⟩
              · exact HK.out j (by omega)
            clear hth hb2
            go_wp2
            go_roundw
            case rel => exact ⟨k + 1, by omega, by go_num, HK2, HF2, hB2⟩
            case measure => simp [intOf]; omega
          | false =>
            rintro e w2 ⟨rfl, hb2⟩
            have HF2 := Lib.hid (heap_below hb2 HF.out)
            have hB2 := Below.step HB hb2
            have hz := HZ.out
            have heq := HEQ.out
            cases hnt : noneT f k with
            | true =>
              rw [hnt] at heq
              have HK2 : Hid (∀ j, j < k + 1 → fineT f j) := fun j h2 => by
                by_cases e : j = k
                · rw [e]; exact ⟨HBN.out, by unfold badT; rw [hth, hnt]; rfl⟩
                · exact HK.out j (by omega)
              clear hth hb2 hnt
              go_wp2_with (refine wpList_load_part (by kernel_rfl) 40 (.tmp 29) rfl w.heap.size (k * 48) rfl 42 A T (0, 0) _ HF2.out HTP.out Try.underlying40 rfl (by rw [HTS.out]; exact treeI) ?_)
              go_roundw
              case rel => exact ⟨k + 1, by omega, by go_num, HK2, HF2, hB2⟩
              case measure => simp [intOf]; omega
            | false =>
              rw [hnt] at heq
              have HE : Hid (c = 3) := by rw [Hc.out]; exact rightF_tree hlt HK.out HBN.out (by unfold badT; rw [hth, hnt]; rfl)
              clear hth hb2 hnt
              go_wp2_with (refine wpList_load_part (by kernel_rfl) 40 (.tmp 29) rfl w.heap.size (k * 48) rfl 42 A T (0, 0) _ HF2.out HTP.out Try.underlying40 rfl (by rw [HTS.out]; exact treeI) ?_)
              go_ret
              rw [HE.out]
              exact ⟨rfl, hB2⟩
    · obtain rfl : k = 4 := by omega
      have HE : Hid (c = 0) := by rw [Hc.out]; exact rightF_good HK.out
      go_wp2
      go_ret
      rw [HE.out]
      exact ⟨rfl, HB⟩
theorem rightF_any (f : Fo) (w : World) :
    Calls Try.prog 31 #[.agg (encF f)] w fun e w' => e = .returned (.int .i64 (rightF f)) ∧ Below w.heap.size w w' := right_raw f _ _ rfl rfl w

end Go.Proofs.Ytnmfbhiooccgfaa
