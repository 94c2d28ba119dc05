/- dir.Out, walked. -/
import Derived.Test.YtheiaebmemcbhaaDoorDirPut
namespace Go.Proofs.YtheiaebmemcbhaaDoor
open Go.RowKit

theorem out_right {D : List Int} (h : listOk D = true) (i : Nat) : rightD ((outD D).eraseIdx i) = 0 := by
  obtain ⟨_, h2, _, _⟩ := list_rising h
  have h3 := (rightD_zero _).1 h2
  have hs := List.eraseIdx_sublist (outD D) i
  rw [rightD_zero]
  exact ⟨Nat.le_trans hs.length_le h3.1, fun x hx => h3.2.1 x (hs.subset hx), (hs.map (·.1)).nodup h3.2.2⟩
def OutRes (D : List Int) (name : ByteArray) (w : World) (e : Ending) (w' : World) : Prop :=
  ((∀ x ∈ outD D, decide (name = x.1) = false) ∧ e = .returned (.tuple #[.slice none 0 0, .int .i64 4]) ∧ Below w.heap.size w w') ∨
  (∃ (i : Nat) (hi : i < (outD D).length), decide (name = (outD D)[i].1) = true ∧ LayOk ((outD D).eraseIdx i) w e w')

set_option maxRecDepth 100000 in
set_option maxHeartbeats 4000000 in
theorem out_any (v : Value) (D : List Int) (name : ByteArray) (w : World) (h : BytesIn w v D) (hD : ByteL D) (hok : listOk D = true) :
    Calls Tryd.prog 24 #[v, .string name] w (OutRes D name w) := by
  obtain ⟨hm, h512, _, _⟩ := (listOk_iff D).1 hok
  obtain ⟨N, HN⟩ : ∃ N, Hid (D.length = N) := ⟨_, rfl⟩
  obtain ⟨p, cp, rfl⟩ := bytes_open h.1 N HN.out
  have HR := Lib.hid (out_right hok)
  obtain ⟨n, HM⟩ : ∃ n, Hid ((outD D).length = n) := ⟨_, rfl⟩
  have hn32 : n ≤ 32 := by rw [← HM.out, (list_rising hok).2.2.1]; omega
  obtain ⟨w0, HW0⟩ : ∃ W, Hid (w.alloc (.cells #[.string name] 9) = W) := ⟨_, rfl⟩
  have hb0 : Below w.heap.size w w0 := by rw [← HW0.out]; exact (Below.refl _ _).alloc (Nat.le_refl _) _
  have hx0 : w0.heap[w.heap.size]? = some (.cells #[.string name] 9 (0, 0)) := by rw [← HW0.out]; exact heap_alloc_new _ _
  have HLI := Lib.hid (list_any (.slice p N cp) D w0 (h.below hb0) hD (by omega))
  have HX0 := Lib.hid hx0
  have HB0 := Lib.hid hb0
  have HOK := Lib.hid hok
  clear h hD hok hm hb0 hx0
  go_enter Tryd.func24, Tryd.ntmps24
  go_wp2_with fail
  rw [HW0.out]
  refine HLI.out.mono ?_
  intro e w1 hres
  obtain ⟨_, ov, rfl, hov, hb1⟩ | ⟨hbad, _⟩ := hres
  case inr => rw [HOK.out] at hbad; cases hbad
  have hovl := hov
  rw [HM.out] at hov
  obtain ⟨q, c, rfl, _⟩ := owns_slice hov
  have hx1 := (hb1.block _ (heap_lt HX0.out)).trans HX0.out
  have a1 : w1.cell? ⟨w.heap.size, 0, none⟩ = some (.string name) := cell_of_row _ _ _ _ _ _ hx1
  have HOV := Lib.hid hovl
  have HB1 : Hid (Below w.heap.size w w1) := Below.step HB0.out hb1
  have hz1 : w0.heap.size ≤ w1.heap.size := hb1.size
  have hei : EntsAt w1 (.slice q n c) (outD D) := by
    unfold EntsAt; rw [HM.out]; exact RowAt.of_owns hov
  have hcl := idx1_any 37 outC_any_fid (.pointer (some ⟨w.heap.size, 0, none⟩)) (fun y => decide (name = y.1)) _ (outD D) w1 hei (by rw [HM.out]; omega) (fun y _ W hW => outC_any name y w.heap.size W (by rw [hW.cell (block_lt_of_cell a1)]; exact a1))
  have HCL := Lib.hid hcl
  clear hcl hei hx1 hov hb1 hovl
  go_wp2_with fail
  refine HCL.out.mono ?_
  rintro e w2 ⟨r, rfl, hr, hb2⟩
  have HB2 : Hid (Below w.heap.size w w2) := Below.step HB1.out hb2
  have HOV2 : Hid (w2.ownsRow w0.heap.size 33 2 (.slice q n c) (outD D).length (ents (outD D))) := owns_below HOV.out hb2
  have hz2 : w0.heap.size ≤ w2.heap.size := Nat.le_trans hz1 hb2.size
  clear hb2
  obtain ⟨rfl, hnone⟩ | ⟨i, hi, rfl, hT, _⟩ := hr
  · have HNO := Lib.hid hnone
    clear hnone
    go_wp2
    go_returns
    exact Or.inl ⟨HNO.out, rfl, HB2.out⟩
  · have HT : Hid (decide (name = (outD D)[i].1) = true) := hT
    have HII := Lib.hid hi
    obtain ⟨j, Hj⟩ : ∃ j, Hid (i + 1 = j) := ⟨_, rfl⟩
    have hi2 := hi
    rw [HM.out] at hi2
    have wj : IntKind.i64.wrap ((i : Int) + 1) = (j : Int) := by rw [IntWalk.i64_in _ (by omega)]; have := Hj.out; omega
    have hneg : ¬ (i : Int) < 0 := by omega
    have HDEL := Lib.hid (delete_any w0.heap.size (.slice q n c) (outD D) w2 HOV2.out i hi (by rw [HM.out]; omega) j Hj.out hz2)
    clear hT
    go_wp2_with fail
    refine HDEL.out.mono ?_
    rintro e w3 ⟨v3, rfl, hov3, hb3⟩
    have HB3 : Hid (Below w.heap.size w w3) := HB2.out.trans (hb3.mono HB0.out.size)
    have HL := Lib.hid (lay_ok v3 ((outD D).eraseIdx i) w3 ⟨RowAt.of_owns hov3, own_cap hov3⟩ (HR.out i))
    clear hov3 hb3
    go_wp2_with fail
    refine HL.out.mono ?_
    rintro e w4 ⟨u, rfl, hu, hb4⟩
    have HU := Lib.hid hu
    have HB4 : Hid (Below w.heap.size w w4) := Below.step HB3.out hb4
    clear hu hb4
    go_wp2
    go_returns
    exact Or.inr ⟨i, HII.out, HT.out, u, rfl, HU.out, HB4.out⟩
end Go.Proofs.YtheiaebmemcbhaaDoor
