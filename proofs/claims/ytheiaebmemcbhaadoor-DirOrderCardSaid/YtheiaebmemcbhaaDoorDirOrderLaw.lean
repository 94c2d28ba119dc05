/- DirOrder, walked. -/
import Derived.Test.YtheiaebmemcbhaaDoorDirPutsLaw
namespace Go.Proofs.YtheiaebmemcbhaaDoor
open Go.RowKit

theorem put_facts {D : List Int} {x : En} (h : putErr D x = 0) : okE x = true ∧ (∀ y ∈ outD D, x.1 ≠ y.1) ∧ (outD D).length ≠ 32 := by
  unfold putErr at h
  by_cases h4 : okE x = false
  · rw [if_pos h4] at h; cases h
  rw [if_neg h4] at h
  by_cases h5 : (outD D).any (fun y => decide (x.1 = y.1)) = true
  · rw [if_pos h5] at h; cases h
  rw [if_neg h5] at h
  by_cases h6 : (outD D).length = 32
  · rw [if_pos h6] at h; cases h
  refine ⟨by simpa using h4, fun y hy he => h5 ?_, h6⟩
  rw [List.any_eq_true]
  exact ⟨y, hy, by simp [he]⟩
theorem put_zero {D : List Int} {x : En} (h1 : okE x = true) (h2 : ∀ y ∈ outD D, x.1 ≠ y.1) (h3 : (outD D).length ≠ 32) : putErr D x = 0 := by
  unfold putErr
  rw [if_neg (by rw [h1]; decide), if_neg, if_neg h3]
  intro h
  obtain ⟨y, hy, he⟩ := List.any_eq_true.1 h
  exact h2 y hy (by simpa using he)
/-- One more behind one more. -/
theorem put_two {l : List En} {x y : En} (hr : rightD l = 0) (hl : l.length + 2 ≤ 32) (hx : putErr (layD l) x = 0) (hy : putErr (layD l) y = 0) (hne : x.1 ≠ y.1) : putErr (layD (outD (layD l) ++ [x])) y = 0 := by
  have hrx := put_right (list_lay hr) hx
  obtain ⟨y1, y2, _⟩ := put_facts hy
  have hp := outD_perm hrx
  refine put_zero y1 (fun z hz => ?_) ?_
  · have := hp.mem_iff.1 hz
    rcases List.mem_append.1 this with h | h
    · exact y2 z h
    · rw [List.mem_singleton] at h; subst h; exact fun e => hne e.symm
  · rw [hp.length_eq, List.length_append, (outD_perm hr).length_eq]
    simp
    omega
theorem put_same {l : List En} {x y : En} (hr : rightD l = 0) (hl : l.length + 2 ≤ 32) (hx : putErr (layD l) x = 0) (hy : putErr (layD l) y = 0) (hne : x.1 ≠ y.1) : layD (outD (layD (outD (layD l) ++ [x])) ++ [y]) = layD (outD (layD (outD (layD l) ++ [y])) ++ [x]) := by
  have hrx := put_right (list_lay hr) hx
  have hry := put_right (list_lay hr) hy
  have hrxy := put_right (list_lay hrx) (put_two hr hl hx hy hne)
  refine layD_perm ?_ hrxy
  have p1 := (outD_perm hrx).append_right [y]
  have p2 := (outD_perm hry).append_right [x]
  refine (p1.trans ?_).trans p2.symm
  rw [List.append_assoc, List.append_assoc]
  refine List.Perm.append_left _ ?_
  exact List.Perm.swap y x []

set_option maxRecDepth 100000 in
set_option maxHeartbeats 4000000 in
theorem order_law (v : Value) (l : List En) (x y : En) (w : World) (h : EntsIn w v l) (hs : ∀ x, x ∈ l → x.1.size ≤ maxLen) :
    Calls Tryd.prog 7 #[v, .agg #[.string x.1, .int .i64 x.2], .agg #[.string y.1, .int .i64 y.2]] w fun e w' => e = .returned (.bool true) ∧ Below w.heap.size w w' := by
  obtain ⟨N, HN⟩ : ∃ N, Hid (N = l.length) := ⟨_, rfl⟩
  obtain ⟨p, cp, rfl, hp⟩ := ents_open h.1 N HN.out
  obtain ⟨x1, x2⟩ := x
  obtain ⟨y1, y2⟩ := y
  obtain ⟨sm, wsum⟩ : ∃ z : Int, IntKind.i64.wrap ((x1.size : Int) + (y1.size : Int)) = z := ⟨_, rfl⟩
  obtain ⟨w0, HW0⟩ : ∃ W, Hid ((w.alloc (.cells #[.string x1, .int .i64 x2] 33)).alloc (.cells #[.string y1, .int .i64 y2] 33) = W) := ⟨_, rfl⟩
  have hb0 : Below w.heap.size w w0 := by rw [← HW0.out]; exact ((Below.refl _ _).alloc (Nat.le_refl _) _).alloc (by simp only [alloc_size]; omega) _
  have hx0 : w0.heap[w.heap.size]? = some (.cells #[.string x1, .int .i64 x2] 33 (0, 0)) := by rw [← HW0.out, alloc_old (by simp only [alloc_size]; omega)]; exact heap_alloc_new _ _
  have hy0 : w0.heap[w.heap.size + 1]? = some (.cells #[.string y1, .int .i64 y2] 33 (0, 0)) := by rw [← HW0.out]; exact alloc_at (by simp only [alloc_size])
  have HX0 := Lib.hid hx0
  have HY0 := Lib.hid hy0
  have HB0 := Lib.hid hb0
  have HIN := Lib.hid h
  have HS := Lib.hid hs
  clear h hs hb0 hx0 hy0 hp
  go_enter Tryd.func7, Tryd.ntmps7
  go_wp2_with fail
  rw [HW0.out]
  refine (laid_true _).mono ?_
  rintro e w1 ⟨rfl, hb1⟩
  have HB1 : Hid (Below w.heap.size w w1) := Below.step HB0.out hb1
  have hx1 := (hb1.block _ (heap_lt HX0.out)).trans HX0.out
  have hy1 := (hb1.block _ (heap_lt HY0.out)).trans HY0.out
  have HX1 := Lib.hid hx1
  have HY1 := Lib.hid hy1
  clear hb1 hx1 hy1
  obtain ⟨eb, Heb⟩ : ∃ b, Hid (entB l = b) := ⟨_, rfl⟩
  have hent := entries_any _ l w1 (HIN.out.below HB1.out).1 HS.out
  rw [Heb.out] at hent
  have HENT := Lib.hid hent
  clear hent
  go_wp2_with fail
  refine HENT.out.mono ?_
  rintro e w2 ⟨rfl, hb2⟩
  have HB2 : Hid (Below w.heap.size w w2) := Below.step HB1.out hb2
  have hx2 := (hb2.block _ (heap_lt HX1.out)).trans HX1.out
  have hy2 := (hb2.block _ (heap_lt HY1.out)).trans HY1.out
  have a2 : w2.cell? ⟨w.heap.size, 0, none⟩ = some (.string x1) := cell_of_row _ _ _ _ _ _ hx2
  have b2 : w2.cell? ⟨w.heap.size + 1, 0, none⟩ = some (.string y1) := cell_of_row _ _ _ _ _ _ hy2
  have HX2 := Lib.hid hx2
  have HY2 := Lib.hid hy2
  clear hb2 hx2 hy2
  cases eb with
  | false =>
    go_wp2
    go_ret
    exact ⟨rfl, HB2.out⟩
  | true =>
  have h40 : N ≤ 40 := by
    have := Heb.out
    unfold entB at this
    rw [Bool.and_eq_true, decide_eq_true_eq] at this
    rw [HN.out]; exact this.1
  by_cases h90 : 90 < sm
  · go_wp2
    go_ret
    exact ⟨rfl, HB2.out⟩
  by_cases hxy : x1.toList = y1.toList
  · go_wp2
    go_ret
    exact ⟨rfl, HB2.out⟩
  have hbe : (x1.toList == y1.toList) = false := by rw [beq_eq_false_iff_ne]; exact hxy
  have HNE : Hid (x1 ≠ y1) := fun e => hxy (by rw [e])
  by_cases hr : rightD l = 0
  case neg =>
    obtain ⟨r, Hr⟩ : ∃ r, Hid (rightD l = r) := ⟨_, rfl⟩
    have hr0 := hr
    rw [Hr.out] at hr0
    have HL := Lib.hid (lay_bad _ l w2 (HIN.out.below HB2.out) (by rw [← HN.out]; omega) r Hr.out hr0)
    clear hr
    have b1 : (r == 0) = false := by rw [beq_eq_false_iff_ne]; exact hr0
    have b3 : (r != 0) = true := by simp [bne, b1]
    go_wp2_with fail
    refine HL.out.mono ?_
    rintro e w3 ⟨rfl, hb3⟩
    have HB3 : Hid (Below w.heap.size w w3) := Below.step HB2.out hb3
    clear hb3
    go_wp2
    go_ret
    exact ⟨rfl, HB3.out⟩
  case pos =>
  have HL := Lib.hid (lay_ok _ l w2 (HIN.out.below HB2.out) hr)
  have HR := Lib.hid hr
  have hlen := layD_len hr
  rw [← HN.out] at hlen
  obtain ⟨M, HM⟩ : ∃ M, Hid (16 * N = M) := ⟨_, rfl⟩
  rw [HM.out] at hlen
  have HLEN := Lib.hid hlen
  obtain ⟨n2, hn2⟩ : ∃ n, N + 2 = n := ⟨_, rfl⟩
  have wn2 : IntKind.i64.wrap ((N : Int) + 2) = (n2 : Int) := by rw [IntWalk.i64_in _ (by omega)]; omega
  clear hr hlen
  go_wp2_with fail
  refine HL.out.mono ?_
  rintro e w3 ⟨v3, rfl, hv3, hb3⟩
  have HB3 : Hid (Below w.heap.size w w3) := Below.step HB2.out hb3
  have hx3 := (hb3.block _ (heap_lt HX2.out)).trans HX2.out
  have hy3 := (hb3.block _ (heap_lt HY2.out)).trans HY2.out
  have a3 : w3.cell? ⟨w.heap.size, 0, none⟩ = some (.string x1) := cell_of_row _ _ _ _ _ _ hx3
  have a3' : w3.cell? ⟨w.heap.size, 1, none⟩ = some (.int .i64 x2) := cell_of_row _ _ _ _ _ _ hx3
  have HX3 := Lib.hid hx3
  have HY3 := Lib.hid hy3
  have HV3 := Lib.hid hv3
  clear hv3 hb3 hx3 hy3
  by_cases h34 : 32 < n2
  · have h34i : (32 : Int) < (n2 : Int) := by omega
    go_wp2
    go_ret
    exact ⟨rfl, HB3.out⟩
  have h34i : ¬ (32 : Int) < (n2 : Int) := by omega
  have HL2 : Hid (l.length + 2 ≤ 32) := by rw [← HN.out]; show _ ≤ _; omega
  have HPUT := Lib.hid (put_any v3 (layD l) (x1, x2) w3 HV3.out (byteL_lay HR.out) (list_lay HR.out))
  obtain ⟨r1, Hr1⟩ : ∃ r, Hid (putErr (layD l) (x1, x2) = r) := ⟨_, rfl⟩
  obtain ⟨r2, Hr2⟩ : ∃ r, Hid (putErr (layD l) (y1, y2) = r) := ⟨_, rfl⟩
  go_wp2_with fail
  refine HPUT.out.mono ?_
  intro e w4 hres
  obtain ⟨u1, he1, hu1, hb4⟩ : ∃ u, e = .returned (.tuple #[u, .int .i64 r1]) ∧ (r1 = 0 → BytesIn w4 u (layD (outD (layD l) ++ [(x1, x2)]))) ∧ Below w3.heap.size w3 w4 := by
    rcases hres with ⟨hpe, u, he, hu, hb⟩ | ⟨hpe, he, hb⟩
    · exact ⟨u, by rw [he, ← Hr1.out, hpe], fun _ => hu, hb⟩
    · exact ⟨_, by rw [he, Hr1.out], fun h0 => absurd (by rw [Hr1.out, h0]) hpe, hb⟩
  subst he1
  have HU1 := Lib.hid hu1
  have HB4 : Hid (Below w.heap.size w w4) := Below.step HB3.out hb4
  have hx4 := (hb4.block _ (heap_lt HX3.out)).trans HX3.out
  have hy4 := (hb4.block _ (heap_lt HY3.out)).trans HY3.out
  have b4 : w4.cell? ⟨w.heap.size + 1, 0, none⟩ = some (.string y1) := cell_of_row _ _ _ _ _ _ hy4
  have b4' : w4.cell? ⟨w.heap.size + 1, 1, none⟩ = some (.int .i64 y2) := cell_of_row _ _ _ _ _ _ hy4
  have HX4 := Lib.hid hx4
  have HY4 := Lib.hid hy4
  have HV4 : Hid (BytesIn w4 v3 (layD l)) := HV3.out.below hb4
  have HPUT2 := Lib.hid (put_any v3 (layD l) (y1, y2) w4 HV4.out (byteL_lay HR.out) (list_lay HR.out))
  clear hres hu1 hb4 hx4 hy4
  go_wp2_with fail
  refine HPUT2.out.mono ?_
  intro e w5 hres
  obtain ⟨u2, he2, hu2, hb5⟩ : ∃ u, e = .returned (.tuple #[u, .int .i64 r2]) ∧ (r2 = 0 → BytesIn w5 u (layD (outD (layD l) ++ [(y1, y2)]))) ∧ Below w4.heap.size w4 w5 := by
    rcases hres with ⟨hpe, u, he, hu, hb⟩ | ⟨hpe, he, hb⟩
    · exact ⟨u, by rw [he, ← Hr2.out, hpe], fun _ => hu, hb⟩
    · exact ⟨_, by rw [he, Hr2.out], fun h0 => absurd (by rw [Hr2.out, h0]) hpe, hb⟩
  subst he2
  have HB5 : Hid (Below w.heap.size w w5) := Below.step HB4.out hb5
  have hx5 := (hb5.block _ (heap_lt HX4.out)).trans HX4.out
  have hy5 := (hb5.block _ (heap_lt HY4.out)).trans HY4.out
  have c5 : w5.cell? ⟨w.heap.size + 1, 0, none⟩ = some (.string y1) := cell_of_row _ _ _ _ _ _ hy5
  have c5' : w5.cell? ⟨w.heap.size + 1, 1, none⟩ = some (.int .i64 y2) := cell_of_row _ _ _ _ _ _ hy5
  have HX5 := Lib.hid hx5
  have HU1' : Hid (r1 = 0 → BytesIn w5 u1 (layD (outD (layD l) ++ [(x1, x2)]))) := fun h0 => (HU1.out h0).below hb5
  have HU2 := Lib.hid hu2
  clear hres hu2 hb5 hx5 hy5
  by_cases hr1 : r1 = 0
  case neg =>
    have b1 : (r1 == 0) = false := by rw [beq_eq_false_iff_ne]; exact hr1
    have b3 : (r1 != 0) = true := by simp [bne, b1]
    go_wp2
    go_ret
    exact ⟨rfl, HB5.out⟩
  case pos =>
  by_cases hr2 : r2 = 0
  case neg =>
    have b1 : (r2 == 0) = false := by rw [beq_eq_false_iff_ne]; exact hr2
    have b3 : (r2 != 0) = true := by simp [bne, b1]
    subst hr1
    go_wp2
    go_ret
    exact ⟨rfl, HB5.out⟩
  case pos =>
  subst hr1 hr2
  have hp1 := put_two HR.out HL2.out Hr1.out Hr2.out HNE.out
  have hp2 := put_two HR.out HL2.out Hr2.out Hr1.out (fun e => HNE.out e.symm)
  have hsame := put_same HR.out HL2.out Hr1.out Hr2.out HNE.out
  have hrx := put_right (list_lay HR.out) Hr1.out
  have hry := put_right (list_lay HR.out) Hr2.out
  have HP1 := Lib.hid hp1
  have HP2 := Lib.hid hp2
  have HSAME := Lib.hid hsame
  have HRX := Lib.hid hrx
  have HRY := Lib.hid hry
  have HPUT3 := Lib.hid (put_any u1 (layD (outD (layD l) ++ [(x1, x2)])) (y1, y2) w5 (HU1'.out rfl) (byteL_lay hrx) (list_lay hrx))
  have HV5 : Hid (BytesIn w5 u2 (layD (outD (layD l) ++ [(y1, y2)]))) := HU2.out rfl
  clear hp1 hp2 hsame hrx hry
  go_wp2_with fail
  refine HPUT3.out.mono ?_
  intro e w6 hres
  obtain ⟨_, u3, rfl, hu3, hb6⟩ | ⟨hpe, _⟩ := hres
  case inr => exact absurd HP1.out hpe
  case inl =>
  have HB6 : Hid (Below w.heap.size w w6) := Below.step HB5.out hb6
  have hx6 := (hb6.block _ (heap_lt HX5.out)).trans HX5.out
  have c6 : w6.cell? ⟨w.heap.size, 0, none⟩ = some (.string x1) := cell_of_row _ _ _ _ _ _ hx6
  have c6' : w6.cell? ⟨w.heap.size, 1, none⟩ = some (.int .i64 x2) := cell_of_row _ _ _ _ _ _ hx6
  have HU3 := Lib.hid hu3
  have HPUT4 := Lib.hid (put_any u2 (layD (outD (layD l) ++ [(y1, y2)])) (x1, x2) w6 (HV5.out.below hb6) (byteL_lay HRY.out) (list_lay HRY.out))
  clear hu3 hb6 hx6
  go_wp2_with fail
  refine HPUT4.out.mono ?_
  intro e w7 hres
  obtain ⟨_, u4, rfl, hu4, hb7⟩ | ⟨hpe, _⟩ := hres
  case inr => exact absurd HP2.out hpe
  case inl =>
  have HB7 : Hid (Below w.heap.size w w7) := Below.step HB6.out hb7
  have hrxy := put_right (list_lay HRX.out) HP1.out
  have hl7 := layD_len hrxy
  have hl8 := ((rightD_zero _).1 hrxy).1
  have heq := equalBytes_dec u3 u4 _ _ w7 (HU3.out.below hb7).1 hu4.1 (by rw [HSAME.out]) (by rw [hl7]; omega)
  have hee : eqB (layD (outD (layD (outD (layD l) ++ [(x1, x2)])) ++ [(y1, y2)])) (layD (outD (layD (outD (layD l) ++ [(y1, y2)])) ++ [(x1, x2)])) = true := by unfold eqB; rw [HSAME.out]; simp
  rw [hee] at heq
  have HEQ := Lib.hid heq
  clear hu4 hb7 hrxy hl7 hl8 heq hee
  go_wp2_with fail
  refine HEQ.out.mono ?_
  rintro e w8 ⟨rfl, hb8⟩
  have HB8 : Hid (Below w.heap.size w w8) := Below.step HB7.out hb8
  clear hb8
  go_wp2
  go_ret
  exact ⟨rfl, HB8.out⟩
end Go.Proofs.YtheiaebmemcbhaaDoor
