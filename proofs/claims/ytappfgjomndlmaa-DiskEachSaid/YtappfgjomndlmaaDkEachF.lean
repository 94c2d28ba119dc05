/- Functions of the library that DiskEach calls: Mul, Repeat of one bool, Index and Contains of strings. -/
import Derived.Test.YtappfgjomndlmaaDiskEachP
import Derived.Laws.Bits64b
namespace Go.Proofs.Ytappfgjomndlmaa
open Go.RowKit

theorem mask_small (n : Nat) (h : n ≤ 1000000) : bits .and .u64 (n : Int) 4294967295 = (n : Int) := by
  have h1 := bits_and_u64_nat n 4294967295 (by omega) (by omega)
  have e : n &&& 4294967295 = n % 4294967296 := Nat.and_two_pow_sub_one_eq_mod n 32
  rw [e] at h1
  rw [show n % 4294967296 = n by omega] at h1
  exact h1

set_option maxHeartbeats 1000000 in
theorem mul64_one (n : Nat) (hn : n ≤ 1000000) (w : World) :
    Calls Try.prog 34 #[.int .u64 1, .int .u64 (n : Int)] w fun e w' => e = .returned (.tuple #[.int .u64 0, .int .u64 (n : Int)]) ∧ w = w' := by
  have hm := mask_small n hn
  have m1 : bits .and .u64 (1 : Int) 4294967295 = 1 := by kernel_rfl
  have m0 : bits .and .u64 (0 : Int) 4294967295 = 0 := by kernel_rfl
  have hd : (n : Int) / 4294967296 = 0 := by omega
  have hw : IntKind.u64.wrap (n : Int) = (n : Int) := by rw [IntKind.wrap_u64]; omega
  go_enter Try.func34, Try.ntmps34
  go_wp2
  go_ret2
  exact ⟨rfl, rfl⟩

set_option maxHeartbeats 1000000 in
theorem mul_one' (n : Nat) (hn : n ≤ 1000000) (w : World) :
    Calls Try.prog 30 #[.int .u64 1, .int .u64 (n : Int)] w fun e w' => e = .returned (.tuple #[.int .u64 0, .int .u64 (n : Int)]) ∧ w = w' := by
  go_enter Try.func30, Try.ntmps30
  go_wp2_with fail
  refine (mul64_one n hn _).mono ?_
  rintro e w' ⟨rfl, rfl⟩
  go_wp2
  go_ret2
  exact ⟨rfl, rfl⟩

theorem boolsT : Try.prog.underlying 34 = some (.slice 4) := by kernel_rfl
theorem boolSize : (Try.prog.info? 4).map (·.size) = some 1 := by kernel_rfl
theorem boolInfo : (Try.prog.info? 4).map (fun i => (i.zero, i.size, i.bytes)) = some (some (.bool false), 1, 1) := by kernel_rfl
theorem below_setRow {B : Nat} {a w : World} (h : Below B a w) {g : Nat} (hp : B ≤ g) (cs : Array Value) : Below B a (w.setRow g cs) :=
  ⟨h.os, h.tape, h.output, by simpa using h.size, fun i hi => (setRow_other w g i cs (by omega)).trans (h.block i hi)⟩
/-- n of N are true. -/
def half (n N : Nat) : List Bool := List.replicate n true ++ List.replicate (N - n) false
theorem bools_len (l : List Bool) : (bools l).length = l.length := by simp [bools]
theorem half_len {n N : Nat} (h : n ≤ N) : (half n N).length = N := by simp [half]; omega
theorem bools_one (l : List Bool) : ∀ v ∈ bools l, v.oneCell' = true := by
  intro v hv
  simp only [bools, List.mem_map] at hv
  obtain ⟨b, _, rfl⟩ := hv
  rfl
theorem half_step {n m N : Nat} (h : n + m ≤ N) : ((bools (half n N)).take n ++ bools (List.replicate m true) ++ (bools (half n N)).drop (n + m)) = bools (half (n + m) N) := by
  have e1 : (half n N).take n = List.replicate n true := by unfold half; rw [List.take_append_of_le_length (by simp), List.take_of_length_le (by simp)]
  have e2 : (half n N).drop (n + m) = List.replicate (N - (n + m)) false := by
    unfold half
    rw [List.drop_append, List.drop_of_length_le (by simp), List.nil_append, List.drop_replicate, List.length_replicate]
    congr 1; omega
  unfold bools at *
  rw [← List.map_take, ← List.map_drop, e1, e2, ← List.map_append, ← List.map_append, List.replicate_append_replicate]
  rfl
theorem made_bool (n : Nat) : madeCells #[Value.bool false] n = (bools (half 0 n)).toArray := by
  apply Array.ext_getElem?
  intro i
  unfold madeCells bools half
  by_cases h : i < n
  · simp [h, Nat.mod_one]
  · simp [h]
theorem make_bool (n : Nat) (hn : n ≤ 1000000) (W : World) : (Instr.makeSlice 34 (.int .i64 n) (.int .i64 n)).run Try.prog W = .ok (.slice (some ⟨W.heap.size, 0, none⟩) n n) (W.alloc (.cells (bools (half 0 n)).toArray 4)) := by
  rw [← made_bool]
  exact run_make_row' 34 4 (.bool false) 1 boolsT boolInfo rfl .i64 .i64 n (by omega) (by omega) W

def RepRes (N : Nat) (w : World) (e : Ending) (w' : World) : Prop :=
  ∃ g, e = .returned (.slice (some ⟨g, 0, none⟩) N N) ∧ w.heap.size ≤ g ∧ w'.heap[g]? = some (.cells (bools (List.replicate N true)).toArray 4 (0, 0)) ∧ Below w.heap.size w w'

set_option maxHeartbeats 2000000 in
theorem repeat_true (g N : Nat) (w : World) (hN : N ≤ 1000) (hc : w.cell? ⟨g, 0, none⟩ = some (.bool true)) :
    Calls Try.prog 22 #[.slice (some ⟨g, 0, none⟩) 1 1, .int .i64 (N : Int)] w (RepRes N w) := by
  obtain ⟨Z, HZ⟩ : ∃ Z, Hid (Z = (bools (half 0 N)).toArray) := ⟨_, rfl⟩
  have hmk : ∀ W : World, (Instr.makeSlice 34 (.int .i64 (N : Int)) (.int .i64 (N : Int))).run Try.prog W = .ok (.slice (some ⟨W.heap.size, 0, none⟩) N N) (W.alloc (.cells Z 4)) := fun W => by
    rw [HZ.out]; exact make_bool N (by omega) W
  have hgl := block_lt_of_cell hc
  have hw1 : IntKind.u64.wrap (N : Int) = (N : Int) := by rw [IntKind.wrap_u64]; omega
  go_enter Try.func22, Try.ntmps22
  go_wp2_with fail
  refine (mul_one' N (by omega) _).mono ?_
  rintro e w' ⟨rfl, rfl⟩
  go_wp2_with fail
  have hm1 : Nat.min 1 N = min 1 N := rfl
  obtain ⟨m, Hm⟩ : ∃ m, Hid (m = min 1 N) := ⟨_, rfl⟩
  have hmN : m ≤ N := by rw [Hm.out]; omega
  have hm0 : 0 < N → 0 < m := fun h => by rw [Hm.out]; omega
  have hm2 : m ≤ 1 := by rw [Hm.out]; omega
  have HM0 := Lib.hid hm0
  have hblk : (w.alloc (.cells Z 4)).heap[w.heap.size]? = some (.cells Z 4 (0, 0)) := heap_alloc_new w _
  have hrow := run_copy_row (P := Try.prog) (w.alloc (.cells Z 4)) 34 34 3 4 w.heap.size 0 N N ⟨g, 0, none⟩ 1 1 Z 4 (bools (List.replicate m true)) boolsT boolSize hblk (by rw [bools_len, List.length_replicate, Hm.out])
    (fun j v hv => by
      have hj := (List.getElem?_eq_some_iff.1 hv).1
      rw [bools_len, List.length_replicate] at hj
      obtain rfl : j = 0 := by omega
      rw [show (⟨g, 0, none⟩ : Addr).add 0 = ⟨g, 0, none⟩ by rfl, World.cell?_alloc_lt _ _ _ hgl, hc]
      obtain rfl : m = 1 := by omega
      simpa [bools] using hv) (by rw [bools_len, List.length_replicate, HZ.out]; simp [bools_len, half_len, hmN]) (bools_one _)
  have hst := half_step (n := 0) (m := m) (N := N) (by omega)
  simp only [Nat.zero_add] at hst
  rw [bools_len, List.length_replicate, Nat.zero_add, HZ.out, show (bools (half 0 N)).toArray.toList = bools (half 0 N) by rfl, hst] at hrow
  have e2 : (w.alloc (.cells (bools (half 0 N)).toArray 4)) = (w.alloc (.cells Z 4)) := by rw [HZ.out]
  rw [e2] at hrow
  rw [hrow]
  have HR : Hid (((w.alloc (.cells Z 4)).setRow w.heap.size (bools (half m N)).toArray).heap[w.heap.size]? = some (.cells (bools (half m N)).toArray 4 (0, 0))) := setRow_heap _ _ _ _ _ _ hblk
  have HB : Hid (Below w.heap.size w ((w.alloc (.cells Z 4)).setRow w.heap.size (bools (half m N)).toArray)) := below_setRow ((Below.refl _ _).alloc (Nat.le_refl _) _) (Nat.le_refl _) _
  generalize (w.alloc (.cells Z 4)).setRow w.heap.size (bools (half m N)).toArray = w1 at *
  clear hrow hblk hst e2 hm0 hm1 hmk hw1 hc
  go_wp2
  go_loopw [8] (fun i wr => ∃ n : Nat, n ≤ N ∧ Hid (0 < N → 0 < n) ∧ i = .int .i64 n ∧ Hid (wr.heap[w.heap.size]? = some (.cells (bools (half n N)).toArray 4 (0, 0))) ∧ Hid (Below w.heap.size w wr)) (fun i _ => N - (intOf i).toNat)
  case atStart => exact ⟨m, hmN, HM0, rfl, HR, HB⟩
  case round =>
    obtain ⟨n, hn, Hn0, rfl, HRR, HBB⟩ := hrel
    by_cases hlt : n < N
    · have hn0 := Hn0.out (by omega)
      have hlt2 : (n : Int) < (N : Int) := by omega
      have hne : ¬ N = n := by omega
      have hn1 : (0 : Int) ≤ (n : Int) := by omega
      have hn2 : (n : Int) ≤ (N : Int) := by omega
      obtain ⟨m', Hm'⟩ : ∃ m', Hid (m' = min n (N - n)) := ⟨_, rfl⟩
      have hm'0 : 0 < m' := by rw [Hm'.out]; omega
      have hm'1 : n + m' ≤ N := by rw [Hm'.out]; omega
      have hm'2 : m' ≤ n := by rw [Hm'.out]; omega
      have hrow := run_copy_row (P := Try.prog) wr.drew 34 34 3 4 w.heap.size n (N - n) (N - n) ⟨w.heap.size, 0, none⟩ n N (bools (half n N)).toArray 4 (bools (List.replicate m' true)) boolsT boolSize HRR.out (by rw [bools_len, List.length_replicate, Hm'.out])
        (fun j v hv => by
          have hj := (List.getElem?_eq_some_iff.1 hv).1
          rw [bools_len, List.length_replicate] at hj
          have hadd : (⟨w.heap.size, 0, none⟩ : Addr).add j = ⟨w.heap.size, j, none⟩ := by unfold Addr.add; split <;> simp_all
          rw [hadd, show wr.drew.cell? ⟨w.heap.size, j, none⟩ = wr.cell? ⟨w.heap.size, j, none⟩ by rfl, cell_of_row _ _ _ _ _ _ HRR.out]
          simp only [List.getElem?_toArray]
          rw [← hv]
          have e1 : (half n N)[j]? = some true := by unfold half; rw [List.getElem?_append_left (by rw [List.length_replicate]; omega), List.getElem?_replicate, if_pos (by omega)]
          have e2 : (List.replicate m' true)[j]? = some true := by rw [List.getElem?_replicate, if_pos hj]
          unfold bools
          rw [List.getElem?_map, List.getElem?_map, e1, e2]) (by rw [bools_len, List.length_replicate]; simp [bools_len, half_len hn]; omega) (bools_one _)
      have hst := half_step (n := n) (m := m') (N := N) hm'1
      rw [bools_len, List.length_replicate, show (bools (half n N)).toArray.toList = bools (half n N) by rfl, hst] at hrow
      have HR2 : Hid ((wr.drew.setRow w.heap.size (bools (half (n + m') N)).toArray).heap[w.heap.size]? = some (.cells (bools (half (n + m') N)).toArray 4 (0, 0))) := setRow_heap _ _ _ _ _ _ HRR.out
      have HB2 : Hid (Below w.heap.size w (wr.drew.setRow w.heap.size (bools (half (n + m') N)).toArray)) := below_setRow HBB.out.drew (Nat.le_refl _) _
      obtain ⟨R2, HR2e⟩ : ∃ R2, Hid (R2 = (bools (half (n + m') N)).toArray) := ⟨_, rfl⟩
      rw [← HR2e.out] at hrow HR2 HB2
      clear hst
      unfold goInt at hrow
      go_wp2
      go_region
      go_wp2
      go_roundw
      case rel => exact ⟨n + m', hm'1, fun _ => by omega, by go_num, by rw [← HR2e.out]; exact HR2, HB2⟩
      case measure => simp [intOf]; omega
    · obtain rfl : n = N := by omega
      have HF : Hid (half n n = List.replicate n true) := by unfold half; rw [Nat.sub_self]; simp [Hid]
      rw [HF.out] at HRR
      go_wp2
      go_ret
      exact ⟨_, rfl, Nat.le_refl _, HRR.out, HBB.out⟩

def strs (L : List ByteArray) : List Value := L.map Value.string
def StrsAt (w : World) (v : Value) (L : List ByteArray) : Prop := RowAt w v 1 L.length (strs L)
theorem strs_get (l : List ByteArray) (j : Nat) (hj : j < l.length) : (strs l)[j]? = some (.string l[j]) := by simp [strs, hj]

set_option maxHeartbeats 1000000 in
theorem indexS_any (v : Value) (L : List ByteArray) (s : ByteArray) (w : World) (h : StrsAt w v L) (hl : L.length ≤ 1000000) (hs : s ∈ L) :
    Calls Try.prog 31 #[v, .string s] w fun e w' => (∃ k : Nat, e = .returned (.int .i64 (k : Int))) ∧ w = w' := by
  obtain ⟨N, HN⟩ : ∃ N, Hid (N = L.length) := ⟨_, rfl⟩
  obtain ⟨p, cp, hu, HP⟩ : ∃ p cp, v = .slice p N cp ∧ Hid (0 < N → ∃ g o, p = some ⟨g, o, none⟩ ∧ ∀ (j : Nat) (x : Value), (strs L)[j]? = some x → w.cell? ⟨g, o + j, none⟩ = some x) := by
    rw [HN.out]
    obtain ⟨_, ⟨h0, a0, c0, rfl⟩ | ⟨g, o, cap, rfl, hc⟩⟩ := h
    · exact ⟨a0, c0, by rw [h0], fun h => by omega⟩
    · exact ⟨_, cap, rfl, fun _ => ⟨g, o, rfl, hc⟩⟩
  rw [← HN.out] at hl
  subst hu
  have HS := Lib.hid hs
  clear h hs
  go_enter Try.func31, Try.ntmps31
  go_wp2
  go_loop [8] (fun i => ∃ k : Nat, k ≤ N ∧ i = .int .i64 k ∧ Hid (s ∉ L.take k)) (fun i => N - (intOf i).toNat)
  case atStart => exact ⟨0, Nat.zero_le _, rfl, by simp [Hid]⟩
  case round =>
    obtain ⟨k, hk, rfl, HK⟩ := hrel
    by_cases hlt : k < N
    · obtain ⟨g, o, rfl, hc⟩ := HP.out (by omega)
      have hkl : k < L.length := by rw [← HN.out]; exact hlt
      have c1 := hc _ _ (strs_get L k hkl)
      obtain ⟨x, hx⟩ : ∃ x, Hid (x = L[k]) := ⟨L[k], rfl⟩
      rw [← hx.out] at c1
      have HC := Lib.hid hc
      clear hc
      have hlt2 : (k : Int) < (N : Int) := by omega
      go_wp2
      · go_ret
        exact ⟨⟨k, rfl⟩, rfl⟩
      · have hne : (s.toList == x.toList) = false := by assumption
        have HNE : Hid (s ≠ x) := fun e => by rw [e] at hne; simp at hne
        clear hne
        go_round
        case rel =>
          refine ⟨k + 1, by omega, by go_num, fun hm => ?_⟩
          rw [← List.take_append_getElem hkl, List.mem_append] at hm
          rcases hm with hm | hm
          · exact HK.out hm
          · exact HNE.out (by rw [hx.out]; simpa using hm)
        case measure => simp [intOf]; omega
    · exfalso
      have := HK.out
      rw [List.take_of_length_le (by rw [← HN.out]; omega)] at this
      exact this HS.out

set_option maxHeartbeats 1000000 in
theorem containsS_true (v : Value) (L : List ByteArray) (s : ByteArray) (w : World) (h : StrsAt w v L) (hl : L.length ≤ 1000000) (hs : s ∈ L) :
    Calls Try.prog 23 #[v, .string s] w fun e w' => e = .returned (.bool true) ∧ w = w' := by
  have H := Lib.hid h
  have HS := Lib.hid hs
  clear h hs
  go_enter Try.func23, Try.ntmps23
  go_wp2_with fail
  refine (indexS_any _ L s _ H.out hl HS.out).mono ?_
  rintro e w' ⟨⟨k, rfl⟩, rfl⟩
  have hk : (0 : Int) ≤ (k : Int) := by omega
  go_wp2
  go_ret
  exact ⟨by simp, rfl⟩

end Go.Proofs.Ytappfgjomndlmaa
