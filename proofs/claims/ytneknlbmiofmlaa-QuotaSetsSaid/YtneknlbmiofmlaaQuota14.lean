/- quota.Pack. -/
import Derived.Test.YtneknlbmiofmlaaQuota13
import Derived.Test.YtneknlbmiofmlaaExtPack
namespace Go.Proofs.Ytneknlbmiofmlaa
open Go.RowKit

def flatQ (l : List (Int × Int)) : List Int := l.flatMap fun x => [x.1, x.2 % 256, x.2 / 256]
theorem flatQ_len (l : List (Int × Int)) : (flatQ l).length = l.length * 3 := by
  induction l with
  | nil => rfl
  | cons x l ih => simp only [flatQ, List.flatMap_cons, List.length_append, List.length_cons, List.length_nil] at *; omega
theorem flatQ_append (a b : List (Int × Int)) : flatQ (a ++ b) = flatQ a ++ flatQ b := by simp [flatQ]
/-- The bytes of n rows, of which some are written. -/
def packQ (n : Int) (l : List (Int × Int)) : List Int := n :: (flatQ l ++ List.replicate (63 - l.length * 3) 0)
theorem packQ_len (n : Int) (l : List (Int × Int)) (h : l.length ≤ 20) : (packQ n l).length = 64 := by
  have := flatQ_len l
  simp [packQ]; omega
theorem packQ_set (n : Int) (l : List (Int × Int)) (x : Int × Int) (h : l.length < 20) :
    (((byts (packQ n l)).setIfInBounds (l.length * 3 + 1) (.int .u8 x.1)).setIfInBounds (l.length * 3 + 2) (.int .u8 (x.2 % 256))).setIfInBounds (l.length * 3 + 3) (.int .u8 (x.2 / 256)) = byts (packQ n (l ++ [x])) := by
  have h1 := flatQ_len l
  unfold byts packQ
  rw [flatQ_append, List.length_append, show 63 - l.length * 3 = (60 - l.length * 3) + 1 + 1 + 1 by omega, List.replicate_succ, List.replicate_succ, List.replicate_succ, show 63 - (l.length + [x].length) * 3 = 60 - l.length * 3 by simp; omega]
  simp only [List.setIfInBounds_toArray, List.map_append, List.map_cons, List.set_cons_succ]
  rw [List.set_append_right _ _ (by simp; omega)]
  rw [show l.length * 3 - (List.map (fun n => Value.int IntKind.u8 n) (flatQ l)).length = 0 by simp; omega]
  rw [List.set_append_right _ _ (by simp; omega)]
  rw [show l.length * 3 + 1 - (List.map (fun n => Value.int IntKind.u8 n) (flatQ l)).length = 1 by simp; omega]
  rw [List.set_append_right _ _ (by simp; omega)]
  rw [show l.length * 3 + 2 - (List.map (fun n => Value.int IntKind.u8 n) (flatQ l)).length = 2 by simp; omega]
  simp [flatQ]
theorem make64 (W : World) : (Instr.makeSlice 37 (.int .i64 64) (.int .i64 64)).run Try.prog W = .ok (.slice (some ⟨W.heap.size, 0, none⟩) 64 64) (W.alloc (.cells (byts (packQ 0 [])) 5)) := by kernel_rfl
theorem packQ_first (n : Int) : (byts (packQ 0 [])).setIfInBounds 0 (.int .u8 n) = byts (packQ n []) := rfl

def PackQRes (l : List (Int × Int)) (w : World) (e : Ending) (w' : World) : Prop :=
  ∃ g, e = .returned (.tuple #[.slice (some ⟨g, 0, none⟩) 64 64, .int .i64 0]) ∧ w.heap.size ≤ g ∧ w'.heap[g]? = some (.cells (byts (packQ l.length l)) 5 (0, 0)) ∧ Below w.heap.size w w'
theorem rightQ_ok {l : List (Int × Int)} (h : rightQ l = 0) : l.length ≤ 20 ∧ okQ l = true := by
  unfold rightQ at h
  split at h
  · cases h
  · split at h
    · exact ⟨by omega, by assumption⟩
    · cases h

set_option maxHeartbeats 400000 in
theorem packQ_bad (v : Value) (l : List (Int × Int)) (w : World) (h : RowAt w v 2 l.length (pairs l)) (hl : l.length ≤ 1000000) (c : Int) (hc : Hid (rightQ l = c)) (hc0 : (c != 0) = true) :
    Calls Try.prog 38 #[v] w fun e w' => e = .returned (.tuple #[.slice none 0 0, .int .i64 c]) ∧ Below w.heap.size w w' := by
  have HR := Lib.hid (rightQ_any v l w h hl)
  rw [hc.out] at HR
  clear h
  go_enter Try.func38, Try.ntmps38
  go_wp2_with fail
  refine HR.out.mono ?_
  rintro e w' ⟨rfl, hb⟩
  go_wp2
  go_ret2
  exact ⟨rfl, hb⟩

set_option maxRecDepth 100000 in
set_option maxHeartbeats 4000000 in
theorem packQ_good (v : Value) (l : List (Int × Int)) (w : World) (h : RowAt w v 2 l.length (pairs l)) (hr : rightQ l = 0) :
    Calls Try.prog 38 #[v] w (PackQRes l w) := by
  obtain ⟨hl20, hok⟩ := rightQ_ok hr
  have HR := rightQ_any v l w h (by omega)
  rw [hr] at HR
  have HRH := Lib.hid HR
  have HOK := Lib.hid hok
  obtain ⟨a, c, hv, HC⟩ := rows_cells h
  obtain ⟨n, HN⟩ : ∃ n, Hid (n = l.length) := ⟨_, rfl⟩
  rw [← HN.out] at hv hl20
  have HCH := Lib.hid HC
  clear HC h hok hr HR
  subst hv
  unfold PackQRes
  rw [← HN.out]
  obtain ⟨Z0, HZ⟩ : ∃ Z, Hid (Z = byts (packQ 0 [])) := ⟨_, rfl⟩
  have hmk : ∀ W : World, (Instr.makeSlice 37 (.int .i64 64) (.int .i64 64)).run Try.prog W = .ok (.slice (some ⟨W.heap.size, 0, none⟩) 64 64) (W.alloc (.cells Z0 5)) := fun W => by rw [HZ.out]; exact make64 W
  go_enter Try.func38, Try.ntmps38
  go_wp2_with fail
  refine HRH.out.mono ?_
  rintro e w1 ⟨rfl, hb1⟩
  have hs1 := hb1.size
  obtain ⟨B, HB⟩ : ∃ B, Hid (B = w1.heap.size) := ⟨_, rfl⟩
  have hZ0 : Hid ((w1.alloc (.cells Z0 5)).heap[B]? = some (.cells Z0 5 (0, 0))) := by show _ = _; rw [HB.out]; exact heap_alloc_new _ _
  have HB0 : Below w.heap.size w (w1.alloc (.cells Z0 5)) := hb1.alloc hs1 _
  have x0 : (w1.alloc (.cells Z0 5)).cell? ⟨B, 0, none⟩ = some (.int .u8 0) := by
    rw [cell_of_row _ _ _ _ _ _ hZ0.out, HZ.out]; rfl
  have f0 : (w1.alloc (.cells Z0 5)).frozen? ⟨B, 0, none⟩ = false := frozen_of_row _ _ _ _ _ hZ0.out
  rw [HB.out] at x0 f0
  have hn1 : (n : Int) % 256 = (n : Int) := by omega
  go_wp2_with fail
  have H00 : Hid ((w1.alloc (Obj.cells (Z0.setIfInBounds 0 (Value.int IntKind.u8 n)) 5)).heap[w1.heap.size]? = some (.cells (byts (packQ n (l.take 0))) 5 (0, 0))) := by
    show _ = _
    rw [heap_alloc_new, HZ.out, packQ_first]
    rfl
  have HB1 : Below w.heap.size w (w1.alloc (Obj.cells (Z0.setIfInBounds 0 (Value.int IntKind.u8 n)) 5)) := hb1.alloc hs1 _
  clear hmk hZ0 HB0 x0 f0 hn1
  go_loopw [21] (fun i wr => ∃ k : Nat, k ≤ n ∧ i = .int .i64 k ∧ Below w.heap.size w wr ∧ Hid (wr.heap[w1.heap.size]? = some (.cells (byts (packQ n (l.take k))) 5 (0, 0)))) (fun i _ => n - (intOf i).toNat)
  case atStart => exact ⟨0, Nat.zero_le _, rfl, HB1, H00⟩
  case round =>
    obtain ⟨k, hk, rfl, HBR, H0⟩ := hrel
    by_cases hlt : k < n
    · have hkl : k < l.length := by rw [← HN.out]; exact hlt
      obtain ⟨g, o, rfl, hg, hc⟩ := HCH.out (by omega)
      obtain ⟨x, Hx⟩ : ∃ x, Hid (x = l[k].1) := ⟨l[k].1, rfl⟩
      obtain ⟨y, Hy⟩ : ∃ y, Hid (y = l[k].2) := ⟨l[k].2, rfl⟩
      have c0 : wr.cell? ⟨g, o + k * 2, none⟩ = some (.int .i64 x) := by rw [HBR.cell (p := ⟨g, o + k * 2, none⟩) hg, (hc k hkl).1, Hx.out]
      have c1 : wr.cell? ⟨g, o + k * 2 + 1, none⟩ = some (.int .i64 y) := by rw [HBR.cell (p := ⟨g, o + k * 2 + 1, none⟩) hg, (hc k hkl).2, Hy.out]
      have ho := (okAt_iff l k).1 (okQ_at HOK.out k hkl)
      rw [getD_at l k hkl, ← Hx.out, ← Hy.out] at ho
      obtain ⟨x0, x1, y0, y1, _⟩ := ho
      have hlen : (l.take k).length = k := by rw [List.length_take, ← HN.out]; omega
      have HXY : Hid (l.take (k + 1) = l.take k ++ [(x, y)]) := by
        show _ = _
        rw [← List.take_append_getElem hkl, Hx.out, Hy.out]
      have hsz : (byts (packQ n (l.take k))).size = 64 := by
        have := packQ_len n (l.take k) (by omega)
        simpa [byts] using this
      have hB : w1.heap.size < wr.heap.size := heap_lt H0.out
      have hcx : ∀ j, j < 64 → ∃ x, wr.cell? ⟨w1.heap.size, j, none⟩ = some x := fun j hj => by
        rw [cell_of_row _ _ _ _ _ _ H0.out]
        exact ⟨_, Array.getElem?_eq_getElem (by rw [hsz]; exact hj)⟩
      obtain ⟨z1, hz1⟩ := hcx (3 * k + 1) (by omega)
      obtain ⟨z2, hz2⟩ := hcx (3 * k + 2) (by omega)
      obtain ⟨z3, hz3⟩ := hcx (3 * k + 3) (by omega)
      have f1 : wr.frozen? ⟨w1.heap.size, 3 * k + 1, none⟩ = false := frozen_of_row _ _ _ _ _ H0.out
      have f2 : wr.frozen? ⟨w1.heap.size, 3 * k + 2, none⟩ = false := frozen_of_row _ _ _ _ _ H0.out
      have f3 : wr.frozen? ⟨w1.heap.size, 3 * k + 3, none⟩ = false := frozen_of_row _ _ _ _ _ H0.out
      have HSZ := Lib.hid hsz
      have HLEN := Lib.hid hlen
      clear hcx hc hsz hlen
      go_wp2
      go_region
      all_goals
        go_wp2
        go_roundw
        case rel =>
          refine ⟨k + 1, by omega, by go_num, ?_, ?_⟩
          · exact ((((HBR.setCell hs1 _).setCell hs1 _).setCell hs1 _).alloc (((HBR.setCell hs1 _).setCell hs1 _).setCell hs1 _).size _).drew
          · have h1 := heap_alloc_keep (heap_setCell_same _ _ (3 * k + 3) _ _ (.int .u8 (y / 256)) (heap_setCell_same _ _ (3 * k + 2) _ _ (.int .u8 (y % 256)) (heap_setCell_same _ _ (3 * k + 1) _ _ (.int .u8 x) H0.out))) (Obj.cells #[Value.int IntKind.i64 x, Value.int IntKind.i64 y] 63)
            have h2 := packQ_set n (l.take k) (x, y) (by rw [HLEN.out]; omega)
            rw [HLEN.out, show k * 3 = 3 * k by omega, ← HXY.out] at h2
            show _ = _
            rw [← h2]
            exact h1
        case measure => simp [intOf]; omega
    · have hkn : k = n := by omega
      have HF : Hid (l.take k = l) := by show _ = _; rw [hkn, HN.out]; exact List.take_length
      have H4 : Hid (wr.heap[w1.heap.size]? = some (.cells (byts (packQ n l)) 5 (0, 0))) := by
        have := H0.out
        rw [HF.out] at this
        exact this
      clear H0 HF
      go_wp2
      go_ret2
      exact ⟨_, rfl, hs1, H4.out, HBR⟩

end Go.Proofs.Ytneknlbmiofmlaa
