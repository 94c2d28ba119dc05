/- Slices whose elements are several cells, and what the library's Insert and Delete do to them. -/
import Derived.Test.YthkcnihmfeilgaaDkPlain
import Derived.Laws.AppendOwn
import Derived.Lib.AppendZeros
import Derived.Lib.AppendZerosOnto
import Derived.Deep.DeepAppendWide
import Derived.Deep.AppendLies
namespace Go.Proofs.Ythkcnihmfeilgaa
open Go.RowKit

/-- The slice v was turned in its own row, or moved to a new one: it reads xs now. -/
def RowDid (T : TypeId) (k : Nat) (v : Value) (n : Nat) (xs : List Value) (w : World) (e : Ending) (w' : World) : Prop :=
  ∃ v', e = .returned v' ∧ w'.ownsRow 0 T k v' n xs ∧ Keeps (fun i => v.ownBlock = some i) w w' ∧ ∀ b, v'.ownBlock = some b → v.ownBlock = some b ∨ w.heap.size ≤ b

theorem add_lit (g o j : Nat) : (⟨g, o, none⟩ : Addr).add j = ⟨g, o + j, none⟩ := by unfold Addr.add; split <;> simp_all

section
variable {P : Program}
theorem run_copy_rowk (w : World) (dT sT ty elem : TypeId) (k : Nat) (g o dLen dCap : Nat) (a : Addr) (sLen sCap : Nat) (cur : Array Value) (t : TypeId) (cs : List Value)
    (hu : P.underlying dT = some (.slice elem)) (hs : (P.info? elem).map (·.size) = some k)
    (hg : w.heap[g]? = some (.cells cur t (0, 0))) (hn : cs.length = Nat.min sLen dLen * k)
    (hsrc : ∀ j v, cs[j]? = some v → w.cell? (a.add j) = some v) (hfit : o + cs.length ≤ cur.size) (h1 : ∀ v ∈ cs, v.oneCell' = true) :
    (Builtin.copy_ #[dT, sT] ty #[.slice (some ⟨g, o, none⟩) dLen dCap, .slice (some a) sLen sCap]).run P w =
      .ok (goInt (Nat.min sLen dLen)) (w.setRow g (cur.toList.take o ++ cs ++ cur.toList.drop (o + cs.length)).toArray) := by
  have hl := run_loadCells_list (P := P) w a cs hsrc
  have hst := run_storeCells_at P g o t cs 0 cur w hg (by simpa using hfit) h1
  cases hq : P.info? elem with
  | none => simp [hq] at hs
  | some i =>
    have hi : i.size = k := by simpa [hq] using hs
    rw [hn] at hl
    simp only [Nat.add_zero] at hst
    simp [Builtin.copy_, run_underlying hu, Builtin.lenOf, Builtin.firstCells, sizeOf, typeInfo, hq, hi, hl, hst]

/-- append of n more zero elements to the first i of a row that is full. -/
theorem run_grow_row (w : World) (ST T it : TypeId) (hST : P.underlying ST = some (.slice T)) (hit : P.underlying it = some (.int .i64)) (i0 : TypeInfo) (z : Value) (k bb : Nat) (hi : P.info? T = some i0) (hz0 : i0.zero = some z)
    (hz1 : i0.size = k) (hz2 : i0.bytes = bb) (hzs : z.cells.size = k) (hk : 0 < k) (hbb2 : bb ≤ 1000) (g i n : Nat) (cur : Array Value) (xs : List Value) (hg : w.heap[g]? = some (.cells cur T (0, 0))) (hs : cur.size = n * k)
    (ht : cur.toList.take (n * k) = xs) (hin : i < n) (hn : n ≤ 1000000) :
    ∃ (G : Nat) (zs : List Value), n + 1 ≤ G ∧ G ≤ maxLen ∧ zs.length = (G - i) * k ∧ ∀ ty, (Builtin.append_ #[ST, it] ty #[.slice (some ⟨g, 0, none⟩) i n, .int .i64 ((n : Int) + 1 - (i : Int))]).run P w =
      .ok (.slice (some ⟨w.heap.size, 0, none⟩) (n + 1) G) (w.drew.alloc (.cells (xs.take (i * k) ++ zs).toArray T)) := by
  have hik : i * k ≤ n * k := Nat.mul_le_mul_right k (by omega)
  have hxl : xs.length = n * k := by rw [← ht, List.length_take, Array.length_toList, hs]; omega
  have hpl : (xs.take (i * k)).length = i * i0.size := by rw [List.length_take, hxl, hz1]; omega
  have hold : (Builtin.firstCells i0.size i (.slice (some ⟨g, 0, none⟩) i n)).run P w.drew = .ok (xs.take (i * k)).toArray w.drew :=
    run_firstCells_some _ _ _ _ _ _ _ hpl fun j v hj => by
      have hjl := (List.getElem?_eq_some_iff.1 hj).1
      rw [hpl, hz1] at hjl
      rw [add_lit, Nat.zero_add, cell_of_row w.drew g j cur T (0, 0) hg]
      rw [← ht, List.getElem?_take, if_pos (by omega), List.getElem?_take, if_pos (by omega)] at hj
      simpa using hj
  have hkk : ((n : Int) + 1 - (i : Int)) = ((n + 1 - i : Nat) : Int) := by omega
  have hb1 : (n + 1) * bb ≤ 1000001 * 1000 := Nat.mul_le_mul (by omega) hbb2
  have hb2 : (n + 1 - i) * bb ≤ 1000001 * 1000 := Nat.mul_le_mul (by omega) hbb2
  have hb3 : ((n + 1) + (n + 1) / 4 + 192) * bb ≤ 2000000 * 1000 := Nat.mul_le_mul (by omega) hbb2
  have hge := grownCap_ge w (n + 1) n T
  refine ⟨grownCap w (n + 1) n T, (Builtin.zeroCells z.cells (n + 1 - i) ++ Builtin.zeroCells z.cells (grownCap w (n + 1) n T - (n + 1))).toList, hge, grownCap_le_maxLen _ _ _ _ (by unfold maxLen; omega), ?_, fun ty => ?_⟩
  · rw [Array.length_toList, Array.size_append, size_zeroCells, size_zeroCells, hzs, ← Nat.add_mul]
    congr 1
    omega
  · have e1 : i + (n + 1 - i) = n + 1 := by omega
    have h := Lib.run_append_grow_zeros (P := P) w ST it ty T i0 _ .i64 .i64 hST hit hi hz0 (some ⟨g, 0, none⟩) i n (xs.take (i * k)) hold (n + 1 - i) (by omega) (by rw [hz1]; exact hk) (by omega) (by omega) (by rw [hz2]; omega) (by rw [hz2, e1]; exact growslice_fits_wide (by omega) (by omega))
    rw [e1] at h
    rw [hkk, h]
    congr 3
    simp [Array.append_assoc]

/-- clear of a part of a row. -/
theorem run_clear_row (w : World) (t e : TypeId) (ht : P.underlying t = some (.slice e)) (z : Value) (k : Nat) (hv : ∀ w, (zeroValue e).run P w = .ok z w) (hzs : z.cells.size = k) (hk : 0 < k) (hz : ∀ v ∈ z.cells.toList, v.oneCell' = true)
    (g o n c : Nat) (cur : Array Value) (ct : TypeId) (hn : 0 < n) (hg : w.heap[g]? = some (.cells cur ct (0, 0))) (hfit : o + n * k ≤ cur.size) :
    ∃ zs : List Value, zs.length = n * k ∧ ∀ ty, (Builtin.clear_ #[t] ty #[.slice (some ⟨g, o, none⟩) n c]).run P w = .ok (.tuple #[]) (w.setRow g (cur.toList.take o ++ zs ++ cur.toList.drop (o + zs.length)).toArray) := by
  have hlen : ((Builtin.zeroCells z.cells n).toList).length = n * k := by rw [Array.length_toList, size_zeroCells, hzs]
  have hone : ∀ v ∈ (Builtin.zeroCells z.cells n).toList, v.oneCell' = true := by
    intro v hv
    simp only [Builtin.zeroCells, Array.toList_map, List.mem_map] at hv
    obtain ⟨i, _, rfl⟩ := hv
    have h2 : i % z.cells.size < z.cells.size := Nat.mod_lt _ (by omega)
    rw [getElem!_pos z.cells _ h2]
    exact hz _ (by simp)
  refine ⟨_, hlen, fun ty => ?_⟩
  have hst := run_storeCells_at P g o ct (Builtin.zeroCells z.cells n).toList 0 cur w hg (by rw [hlen]; omega) hone
  simp only [Nat.add_zero] at hst
  obtain ⟨m, rfl⟩ : ∃ m, n = m + 1 := ⟨n - 1, by omega⟩
  simp [Builtin.clear_, run_underlying ht, hv, hst]
end

end Go.Proofs.Ythkcnihmfeilgaa
