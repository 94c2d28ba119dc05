/- dir.Lay, walked. -/
import Derived.Test.YtheiaebmemcbhaaDoorDirWalk
import Derived.Test.YtheiaebmemcbhaaDoorOwn
import Derived.Deep.OwnRows
import Derived.Laws.EntriesVeiled
namespace Go.Proofs.YtheiaebmemcbhaaDoor
open Go.RowKit

theorem u8Info : (Tryd.prog.info? 5).map (fun i => (i.zero, i.size, i.bytes)) = some (some (.int .u8 0), 1, 1) := by kernel_rfl
theorem made_u8 (n : Nat) : madeCells #[Value.int .u8 0] n = (u8s (List.replicate n 0)).toArray := by
  apply Array.ext_getElem?
  intro i
  unfold madeCells u8s
  by_cases h : i < n
  · simp [h, Nat.mod_one]
  · simp [h]
theorem make_u8 (n : Nat) (x : Int) (hx : x = n) (hn : n ≤ 1000000) (W : World) : (Instr.makeSlice 25 (.int .i64 x) (.int .i64 x)).run Tryd.prog W = .ok (.slice (some ⟨W.heap.size, 0, none⟩) n n) (W.alloc (.cells (u8s (List.replicate n 0)).toArray 5)) := by
  subst hx
  rw [← made_u8]
  exact run_make_row' 25 5 (.int .u8 0) 1 u8sT u8Info rfl .i64 .i64 n (by omega) (by omega) W

theorem alloc_size (w : World) (o : Obj) : (w.alloc o).heap.size = w.heap.size + 1 := by show (w.heap.push _).size = _; simp
theorem alloc_old {w : World} {o : Obj} {i : Nat} (h : i < w.heap.size) : (w.alloc o).heap[i]? = w.heap[i]? := ((Below.refl w.heap.size w).alloc (Nat.le_refl _) o).block i h
theorem alloc_at {w : World} {o : Obj} {n : Nat} (h : n = w.heap.size) : (w.alloc o).heap[n]? = some o := by subst h; exact heap_alloc_new w o
theorem bytes_of_block {w : World} {g cap : Nat} {t : TypeId} {fr : Nat × Nat} {D : List Int} {n : Nat} (h : w.heap[g]? = some (.cells (u8s D).toArray t fr)) (hn : D.length = n) : BytesAt w (.slice (some ⟨g, 0, none⟩) n cap) D := by
  refine ⟨by rw [u8s_len]; omega, Or.inr ⟨g, 0, cap, by rw [hn], fun j x hx => ?_⟩⟩
  rw [cell_of_row _ _ _ _ _ _ h, Nat.zero_add, ← hx, ← Array.getElem?_toList]
/-- Entries in a slice that is no longer than its room. -/
structure EntsIn (w : World) (v : Value) (l : List En) : Prop where
  at_ : EntsAt w v l
  cap : CapOk v
theorem EntsIn.below {w w' : World} {v : Value} {l : List En} (h : EntsIn w v l) (hb : Below w.heap.size w w') : EntsIn w' v l := ⟨h.1.below hb, h.2⟩
/-- Bytes in a slice that is no longer than its room. -/
structure BytesIn (w : World) (v : Value) (D : List Int) : Prop where
  at_ : BytesAt w v D
  cap : CapOk v
theorem BytesIn.below {w w' : World} {v : Value} {D : List Int} (h : BytesIn w v D) (hb : Below w.heap.size w w') : BytesIn w' v D := ⟨RowAt.below h.1 hb, h.2⟩
def LayOk (l : List En) (w : World) (e : Ending) (w' : World) : Prop := ∃ v, e = .returned (.tuple #[v, .int .i64 0]) ∧ BytesIn w' v (layD l) ∧ Below w.heap.size w w'

set_option maxRecDepth 100000 in
set_option maxHeartbeats 1000000 in
theorem lay_bad (v : Value) (l : List En) (w : World) (h : EntsIn w v l) (hl : l.length ≤ 1000000) (r : Int) (hr : rightD l = r) (hr0 : r ≠ 0) :
    Calls Tryd.prog 11 #[v] w fun e w' => e = .returned (.tuple #[.slice none 0 0, .int .i64 r]) ∧ Below w.heap.size w w' := by
  obtain ⟨N, HN⟩ : ∃ N, Hid (N = l.length) := ⟨_, rfl⟩
  obtain ⟨p, cp, rfl, _⟩ := ents_open h.1 N HN.out
  have HB0 : Hid (Below w.heap.size w (w.alloc (.cells #[.slice p N cp] 22))) := (Below.refl _ _).alloc (Nat.le_refl _) _
  have HR : Hid (Calls Tryd.prog 21 #[.slice p N cp] (w.alloc (.cells #[.slice p N cp] 22)) fun e w' => e = .returned (.int .i64 r) ∧ Below (w.alloc (.cells #[.slice p N cp] 22)).heap.size (w.alloc (.cells #[.slice p N cp] 22)) w') := by
    have := right_any (.slice p N cp) l (w.alloc (.cells #[.slice p N cp] 22)) (h.1.below HB0.out) h.2 hl
    rw [hr] at this
    exact this
  have b1 : (r == 0) = false := by rw [beq_eq_false_iff_ne]; exact hr0
  have b2 : (r != 0) = true := by simp [bne, b1]
  clear h hr
  go_enter Tryd.func11, Tryd.ntmps11
  go_wp2_with fail
  refine HR.out.mono ?_
  rintro e w1 ⟨rfl, hb1⟩
  have HB1 : Hid (Below w.heap.size w w1) := Below.step HB0.out hb1
  clear hb1
  go_wp2
  go_returns
  exact ⟨rfl, HB1.out⟩

set_option maxRecDepth 100000 in
set_option maxHeartbeats 4000000 in
theorem lay_ok (v : Value) (l : List En) (w : World) (h : EntsIn w v l) (hr : rightD l = 0) :
    Calls Tryd.prog 11 #[v] w (LayOk l w) := by
  have hz := (rightD_zero l).1 hr
  have HZ := Lib.hid hz
  have hl := hz.1
  obtain ⟨N, HN⟩ : ∃ N, Hid (N = l.length) := ⟨_, rfl⟩
  rw [← HN.out] at hl
  obtain ⟨p, cp, rfl, _⟩ := ents_open h.1 N HN.out
  have HB0 : Hid (Below w.heap.size w (w.alloc (.cells #[.slice p N cp] 22))) := (Below.refl _ _).alloc (Nat.le_refl _) _
  have HR : Hid (Calls Tryd.prog 21 #[.slice p N cp] (w.alloc (.cells #[.slice p N cp] 22)) fun e w' => e = .returned (.int .i64 0) ∧ Below (w.alloc (.cells #[.slice p N cp] 22)).heap.size (w.alloc (.cells #[.slice p N cp] 22)) w') := by
    have := right_any (.slice p N cp) l (w.alloc (.cells #[.slice p N cp] 22)) (h.1.below HB0.out) h.2 (by rw [← HN.out]; omega)
    rw [hr] at this
    exact this
  have HH := Lib.hid h
  have hA0 := heap_alloc_new w (.cells #[.slice p N cp] 22)
  have HA0 := Lib.hid hA0
  clear h hr hz hA0
  obtain ⟨M, HM⟩ : ∃ M, Hid (16 * N = M) := ⟨_, rfl⟩
  have wm : IntKind.i64.wrap (16 * (N : Int)) = (M : Int) := by rw [IntWalk.i64_in _ (by omega)]; have := HM.out; omega
  obtain ⟨Z, HZ0⟩ : ∃ Z, Hid (Z = List.replicate M (0 : Int)) := ⟨_, rfl⟩
  have hmk : ∀ W : World, (Instr.makeSlice 25 (.int .i64 (M : Int)) (.int .i64 (M : Int))).run Tryd.prog W = .ok (.slice (some ⟨W.heap.size, 0, none⟩) M M) (W.alloc (.cells (u8s Z).toArray 5)) := fun W => by
    rw [HZ0.out]; exact make_u8 M M rfl (by have := HM.out; omega) W
  go_enter Tryd.func11, Tryd.ntmps11
  go_wp2_with fail
  refine HR.out.mono ?_
  rintro e w1 ⟨rfl, hb1⟩
  have hA1 := (hb1.block w.heap.size (heap_lt HA0.out)).trans HA0.out
  have a1 : w1.cell? ⟨w.heap.size, 0, none⟩ = some (.slice p N cp) := cell_of_row _ _ _ _ _ _ hA1
  have HA1 := Lib.hid hA1
  have HB1 : Hid (Below w.heap.size w w1) := Below.step HB0.out hb1
  clear hb1 hA1
  go_wp2_with fail
  refine (entsClone_any _ l w1 (HH.out.1.below HB1.out) (by rw [← HN.out]; omega)).mono ?_
  rintro e w2 ⟨v2, rfl, hown, hb2, hz2⟩
  rw [← HN.out] at hown
  obtain ⟨p2, c2, rfl, _⟩ := owns_slice hown
  have hA2 := (hb2.block w.heap.size (heap_lt HA1.out)).trans HA1.out
  have a2 : w2.cell? ⟨w.heap.size, 0, none⟩ = some (.slice p N cp) := cell_of_row _ _ _ _ _ _ hA2
  have f2 : w2.frozen? ⟨w.heap.size, 0, none⟩ = false := frozen_of_row _ _ _ _ _ hA2
  obtain ⟨w3, HW3⟩ : ∃ W, Hid (w2.setCell ⟨w.heap.size, 0, none⟩ (.slice p2 N c2) = W) := ⟨_, rfl⟩
  have hA3 : w3.heap[w.heap.size]? = some (.cells #[.slice p2 N c2] 22 (0, 0)) := by
    rw [← HW3.out, setCell_eq_setRow _ _ _ _ _ _ _ hA2, setRow_heap _ _ _ _ _ _ hA2]
    rfl
  have hown3 : w3.ownsRow w1.heap.size 33 2 (.slice p2 N c2) N (ents l) := owns_keep hown fun b hb => by
    rw [← HW3.out, Below.heap_setCell _ _ _ _ (fun e => own_ne hown hA2 (by decide) (by rw [hb, e]))]
  have HB3 : Hid (Below w.heap.size w w3) := by
    rw [← HW3.out]
    exact (Below.step HB1.out hb2).setCell (Nat.le_refl _) _
  have hsort := sort_any w1.heap.size (.slice p2 N c2) l w3 (by rw [← HN.out]; exact hown3) (by rw [← HN.out]; omega)
  have HSO := Lib.hid hsort
  have HO3 := Lib.hid hown3
  have HA3 := Lib.hid hA3
  have a3 : w3.cell? ⟨w.heap.size, 0, none⟩ = some (.slice p2 N c2) := cell_of_row _ _ _ _ _ _ hA3
  clear hown hb2 hA2 hown3 hsort hA3
  have HA3' := a3
  rw [← HW3.out] at HA3'
  go_wp2_with fail
  rw [HW3.out]
  refine HSO.out.mono ?_
  rintro e w4 ⟨rfl, T, hp, hs, hown4, hgr⟩
  have hk4 : Keeps (fun i => (Value.slice p2 N c2).ownBlock = some i) w3 w4 := Keeps.grown hgr fun r hr => hr
  have hob : ∀ i, (Value.slice p2 N c2).ownBlock = some i → w1.heap.size ≤ i := fun i hi => by
    obtain ⟨_, ⟨hv, _⟩ | ⟨g, cap, cur, hv, hg, _⟩⟩ := HO3.out
    · rw [hv] at hi; simp [Value.ownBlock] at hi
    · rw [hv] at hi
      have : g = i := by simpa [Value.ownBlock] using hi
      rw [← this]; exact hg
  have hA4 := (hk4.block w.heap.size (heap_lt HA3.out) (own_ne HO3.out HA3.out (by decide))).trans HA3.out
  have a4 : w4.cell? ⟨w.heap.size, 0, none⟩ = some (.slice p2 N c2) := cell_of_row _ _ _ _ _ _ hA4
  have hB4 : Below w.heap.size w w4 := HB3.out.trans (hk4.to_below (fun i hi => Nat.le_trans HB1.out.size (hob i hi)) HB3.out.size)
  have HA4 := Lib.hid hA4
  have HB4 := Lib.hid hB4
  have HO4 := Lib.hid hown4
  have HPM := Lib.hid hp
  have HPS := Lib.hid hs
  have hlt4 : w.heap.size < w4.heap.size := heap_lt hA4
  have hne4 : ¬ w.heap.size = w4.heap.size := by omega
  clear hp hs hown4 hgr hk4 hob hA4 hB4 HA3' a1 a2 a3 f2 HW3
  obtain ⟨w6, HW6⟩ : ∃ W, Hid ((((w4.alloc (.cells (u8s Z).toArray 5)).alloc (.cells #[.slice (some ⟨w4.heap.size, 0, none⟩) M M] 25)).alloc (.cells #[.int .i64 0] 3)).alloc (.cells #[.func (.func 30) #[] #[.pointer (some ⟨w.heap.size, 0, none⟩), .pointer (some ⟨w4.heap.size + 1 + 1 + 1, 0, none⟩), .pointer (some ⟨w4.heap.size + 1, 0, none⟩), .pointer (some ⟨w4.heap.size + 1 + 1, 0, none⟩)]] 55) = W) := ⟨_, rfl⟩
  have hold6 : ∀ i, i < w4.heap.size → w6.heap[i]? = w4.heap[i]? := fun i hi => by
    rw [← HW6.out, alloc_old (by simp only [alloc_size]; omega), alloc_old (by simp only [alloc_size]; omega), alloc_old (by simp only [alloc_size]; omega), alloc_old hi]
  have h60 : w6.heap[w4.heap.size]? = some (.cells (u8s Z).toArray 5) := by
    rw [← HW6.out, alloc_old (by simp only [alloc_size]; omega), alloc_old (by simp only [alloc_size]; omega), alloc_old (by simp only [alloc_size]; omega), alloc_at rfl]
  have h61 : w6.heap[w4.heap.size + 1]? = some (.cells #[.slice (some ⟨w4.heap.size, 0, none⟩) M M] 25) := by
    rw [← HW6.out, alloc_old (by simp only [alloc_size]; omega), alloc_old (by simp only [alloc_size]; omega), alloc_at (by simp only [alloc_size])]
  have h62 : w6.heap[w4.heap.size + 1 + 1]? = some (.cells #[.int .i64 0] 3) := by
    rw [← HW6.out, alloc_old (by simp only [alloc_size]; omega), alloc_at (by simp only [alloc_size])]
  have h63 : w6.heap[w4.heap.size + 1 + 1 + 1]? = some (.cells #[.func (.func 30) #[] #[.pointer (some ⟨w.heap.size, 0, none⟩), .pointer (some ⟨w4.heap.size + 1 + 1 + 1, 0, none⟩), .pointer (some ⟨w4.heap.size + 1, 0, none⟩), .pointer (some ⟨w4.heap.size + 1 + 1, 0, none⟩)]] 55 (0, 0)) := by
    rw [← HW6.out, alloc_at (by simp only [alloc_size])]
  have hb6 : Below w.heap.size w w6 := by
    rw [← HW6.out]
    have s1 := HB4.out.size
    exact (((HB4.out.alloc s1 _).alloc (by simp only [alloc_size]; omega) _).alloc (by simp only [alloc_size]; omega) _).alloc (by simp only [alloc_size]; omega) _
  have hTl : T.length = N := by rw [HPM.out.length_eq, ← HN.out]
  have own4 : w4.ownsRow 0 33 2 (.slice p2 N c2) N (ents T) := by
    have h := HO4.out
    rw [← HN.out] at h
    exact ⟨h.1, h.2.elim Or.inl (fun ⟨g, cap, cur, hv, _, r⟩ => Or.inr ⟨g, cap, cur, hv, Nat.zero_le _, r⟩)⟩
  have hlay : LayAt w.heap.size (w4.heap.size + 1 + 1 + 1) (w4.heap.size + 1) (w4.heap.size + 1 + 1) w4.heap.size p2 N c2 M M T Z 0 w6 := by
    refine ⟨?_, hTl, owns_keep own4 fun b hb => ?_, h63, ?_, ?_, ?_, ?_, Nat.le_refl _, HM.out.symm⟩
    · rw [hold6 _ hlt4]; exact HA4.out
    · have hlt : b < w4.heap.size := by
        obtain ⟨_, ⟨hv, _⟩ | ⟨g, cap, cur, hv, _, hh, _⟩⟩ := own4
        · rw [hv] at hb; simp [Value.ownBlock] at hb
        · rw [hv] at hb
          have : g = b := by simpa [Value.ownBlock] using hb
          rw [← this]; exact heap_lt hh
      rw [hold6 _ hlt]
    · exact h61
    · exact h60
    · exact h62
    · rw [HZ0.out, List.length_replicate]
  have HOKT : Hid (∀ x ∈ T, x.1.size ≤ 14 ∧ 0 ≤ x.2 ∧ x.2 ≤ 255) := fun x hx => by
    have h1 := okE_name (HZ.out.2.1 x (HPM.out.mem_iff.1 hx))
    exact ⟨(name_size h1.1).1, by omega, by omega⟩
  have hcall := lay2_any w.heap.size (w4.heap.size + 1 + 1 + 1) (w4.heap.size + 1) (w4.heap.size + 1 + 1) w4.heap.size p2 N c2 M M T HOKT.out hl N 0 0 Z w6 (by omega) (by rw [(ino_ok hl).2.1]; omega) hlay (by omega)
  rw [show ((0 : Nat) : Int) = 0 from rfl] at hcall
  have HCALL := Lib.hid hcall
  have HB6 := Lib.hid hb6
  clear hcall hb6 hlay own4 h63 h62 h61 h60 hold6
  go_wp2_with fail
  rw [HW6.out]
  refine HCALL.out.mono ?_
  rintro e w7 ⟨rfl, hL, hk⟩
  have a7 : w7.cell? ⟨w4.heap.size + 1, 0, none⟩ = some (.slice (some ⟨w4.heap.size, 0, none⟩) M M) := cell_of_row _ _ _ _ _ _ hL.o
  have hD : layF Z ((ino N 0).zip (T.drop 0)) = layD l := by
    have hT : T = sortD l := sortD_eq HPM.out (rising_of HPS.out (((HPM.out.map (·.1)).nodup_iff).2 HZ.out.2.2))
    unfold layD layS
    rw [← hT, hTl, List.drop_zero, HZ0.out, HM.out]
  have hB7 : Below w.heap.size w w7 := HB6.out.trans (hk.to_below (fun i hi => by
    have := HB4.out.size
    rcases hi with rfl | rfl <;> omega) HB6.out.size)
  have HRES : Hid (LayOk l w (.returned (.tuple #[.slice (some ⟨w4.heap.size, 0, none⟩) M M, .int .i64 0])) w7) := by
    refine ⟨_, rfl, ⟨?_, fun p n c he => ?_⟩, hB7⟩
    · have h1 := hL.b
      rw [hD] at h1
      have h2 := hL.d
      rw [hD] at h2
      exact bytes_of_block h1 h2
    · injection he with _ e2 e3
      omega
  clear hL hk hD hB7
  go_wp2
  go_returns
  exact HRES.out
end Go.Proofs.YtheiaebmemcbhaaDoor
