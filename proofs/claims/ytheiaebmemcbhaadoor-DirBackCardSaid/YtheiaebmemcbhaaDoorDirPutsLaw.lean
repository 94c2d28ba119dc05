/- DirPuts, walked. -/
import Derived.Test.YtheiaebmemcbhaaDoorDirFindsLaw
namespace Go.Proofs.YtheiaebmemcbhaaDoor
open Go.RowKit

theorem outD_perm {l : List En} (h : rightD l = 0) : (outD (layD l)).Perm l := by rw [outD_lay h]; exact sortD_perm l
/-- With an entry more, and then without it. -/
theorem puts_back {l : List En} {x : En} (hr : rightD l = 0) (hm : rightD (outD (layD l) ++ [x]) = 0) {i : Nat} (hi : i < (outD (layD (outD (layD l) ++ [x]))).length) (hx : x.1 = (outD (layD (outD (layD l) ++ [x])))[i].1) : layD ((outD (layD (outD (layD l) ++ [x]))).eraseIdx i) = layD l := by
  obtain ⟨M, hM⟩ : ∃ M, M = outD (layD (outD (layD l) ++ [x])) := ⟨_, rfl⟩
  have hp : M.Perm (outD (layD l) ++ [x]) := by rw [hM]; exact outD_perm hm
  have hp2 := outD_perm hr
  have hn := ((rightD_zero _).1 hm).2.2
  simp only [← hM] at hi hx ⊢
  have hy : M[i] = x := nodup_same hn (hp.mem_iff.1 (List.getElem_mem hi)) (by simp) hx.symm
  have h1 : (x :: M.eraseIdx i).Perm M := by
    have e1 : M.eraseIdx i = M.take i ++ M.drop (i + 1) := List.eraseIdx_eq_take_drop_succ ..
    have e2 : M = M.take i ++ x :: M.drop (i + 1) := by
      rw [← hy, ← List.drop_eq_getElem_cons hi, List.take_append_drop]
    rw [e1]
    conv => rhs; rw [e2]
    exact List.perm_middle.symm
  have h2 : (x :: M.eraseIdx i).Perm (x :: outD (layD l)) := (h1.trans hp).trans (List.perm_append_singleton x _)
  have h3 : (M.eraseIdx i).Perm l := ((List.perm_cons x).1 h2).trans hp2
  exact (layD_perm h3.symm hr).symm

set_option maxRecDepth 100000 in
set_option maxHeartbeats 4000000 in
theorem puts_law (v : Value) (l : List En) (x : En) (w : World) (h : EntsIn w v l) (hs : ∀ x, x ∈ l → x.1.size ≤ maxLen) :
    Calls Tryd.prog 8 #[v, .agg #[.string x.1, .int .i64 x.2]] w fun e w' => e = .returned (.bool true) ∧ Below w.heap.size w w' := by
  obtain ⟨N, HN⟩ : ∃ N, Hid (N = l.length) := ⟨_, rfl⟩
  obtain ⟨p, cp, rfl, hp⟩ := ents_open h.1 N HN.out
  obtain ⟨x1, Hx1⟩ : ∃ y, Hid (x.1 = y) := ⟨x.1, rfl⟩
  obtain ⟨x2, Hx2⟩ : ∃ y, Hid (x.2 = y) := ⟨x.2, rfl⟩
  have hxx : x = (x1, x2) := by rw [← Hx1.out, ← Hx2.out]
  rw [Hx1.out, Hx2.out]
  obtain ⟨w0, HW0⟩ : ∃ W, Hid (w.alloc (.cells #[.string x1, .int .i64 x2] 33) = W) := ⟨_, rfl⟩
  have hb0 : Below w.heap.size w w0 := by rw [← HW0.out]; exact (Below.refl _ _).alloc (Nat.le_refl _) _
  have hx0 : w0.heap[w.heap.size]? = some (.cells #[.string x1, .int .i64 x2] 33 (0, 0)) := by rw [← HW0.out]; exact heap_alloc_new _ _
  have HX0 := Lib.hid hx0
  have HB0 := Lib.hid hb0
  have HIN := Lib.hid h
  have HS := Lib.hid hs
  have HXX := Lib.hid hxx
  clear h hs hb0 hx0 hp hxx
  go_enter Tryd.func8, Tryd.ntmps8
  go_wp2_with fail
  rw [HW0.out]
  refine (laid_true _).mono ?_
  rintro e w1 ⟨rfl, hb1⟩
  have HB1 : Hid (Below w.heap.size w w1) := Below.step HB0.out hb1
  have hx1 := (hb1.block _ (heap_lt HX0.out)).trans HX0.out
  have HX1 := Lib.hid hx1
  clear hb1 hx1
  obtain ⟨eb, Heb⟩ : ∃ b, Hid (entB l = b) := ⟨_, rfl⟩
  have hent := entries_any _ l w1 (HIN.out.below HB1.out).1 HS.out
  rw [Heb.out] at hent
  have HENT := Lib.hid hent
  clear hent
  go_wp2_with fail
  refine HENT.out.mono ?_
  rintro e w2 ⟨rfl, hb2⟩
  have HB2 : Hid (Below w.heap.size w w2) := Below.step HB1.out hb2
  have hx2 := (hb2.block _ (heap_lt HX1.out)).trans HX1.out
  have a2 : w2.cell? ⟨w.heap.size, 0, none⟩ = some (.string x1) := cell_of_row _ _ _ _ _ _ hx2
  have HX2 := Lib.hid hx2
  clear hb2 hx2
  cases eb with
  | false =>
    go_wp2
    go_ret
    exact ⟨rfl, HB2.out⟩
  | true =>
  have h40 : N ≤ 40 := by
    have := Heb.out
    unfold entB at this
    rw [Bool.and_eq_true, decide_eq_true_eq] at this
    rw [HN.out]; exact this.1
  by_cases h50 : 50 < x1.size
  · have h50i : (50 : Int) < (x1.size : Int) := by omega
    go_wp2
    go_ret
    exact ⟨rfl, HB2.out⟩
  have h50i : ¬ (50 : Int) < (x1.size : Int) := by omega
  by_cases hr : rightD l = 0
  case neg =>
    obtain ⟨r, Hr⟩ : ∃ r, Hid (rightD l = r) := ⟨_, rfl⟩
    have hr0 := hr
    rw [Hr.out] at hr0
    have HL := Lib.hid (lay_bad _ l w2 (HIN.out.below HB2.out) (by rw [← HN.out]; omega) r Hr.out hr0)
    clear hr
    have b1 : (r == 0) = false := by rw [beq_eq_false_iff_ne]; exact hr0
    have b2 : (r != 0) = true := by simp [bne, b1]
    go_wp2_with fail
    refine HL.out.mono ?_
    rintro e w3 ⟨rfl, hb3⟩
    have HB3 : Hid (Below w.heap.size w w3) := Below.step HB2.out hb3
    clear hb3
    go_wp2
    go_ret
    exact ⟨rfl, HB3.out⟩
  case pos =>
  have HL := Lib.hid (lay_ok _ l w2 (HIN.out.below HB2.out) hr)
  have HR := Lib.hid hr
  have hlen := layD_len hr
  rw [← HN.out] at hlen
  obtain ⟨M, HM⟩ : ∃ M, Hid (16 * N = M) := ⟨_, rfl⟩
  rw [HM.out] at hlen
  have HLEN := Lib.hid hlen
  clear hr hlen
  go_wp2_with fail
  refine HL.out.mono ?_
  rintro e w3 ⟨v3, rfl, hv3, hb3⟩
  have HB3 : Hid (Below w.heap.size w w3) := Below.step HB2.out hb3
  have hx3 := (hb3.block _ (heap_lt HX2.out)).trans HX2.out
  have a3 : w3.cell? ⟨w.heap.size, 0, none⟩ = some (.string x1) := cell_of_row _ _ _ _ _ _ hx3
  have a3' : w3.cell? ⟨w.heap.size, 1, none⟩ = some (.int .i64 x2) := cell_of_row _ _ _ _ _ _ hx3
  have HX3 := Lib.hid hx3
  obtain ⟨p3, c3, rfl⟩ := bytes_open hv3.1 M HLEN.out
  have HV3 := Lib.hid hv3
  have hput := put_any (.slice p3 M c3) (layD l) (x1, x2) w3 hv3 (byteL_lay HR.out) (list_lay HR.out)
  have HPUT := Lib.hid hput
  clear hput hv3 hb3 hx3
  go_wp2_with fail
  refine HPUT.out.mono ?_
  intro e w4 hres
  obtain ⟨hpe, u, rfl, hu, hb4⟩ | ⟨hpe, rfl, hb4⟩ := hres
  case inr =>
    obtain ⟨r, Hr⟩ : ∃ r, Hid (putErr (layD l) (x1, x2) = r) := ⟨_, rfl⟩
    rw [Hr.out] at hpe ⊢
    have HB4 : Hid (Below w.heap.size w w4) := Below.step HB3.out hb4
    have b1 : (r == 0) = false := by rw [beq_eq_false_iff_ne]; exact hpe
    have b2 : (r != 0) = true := by simp [bne, b1]
    clear hb4
    go_wp2
    go_ret
    exact ⟨rfl, HB4.out⟩
  case inl =>
  have hrm := put_right (list_lay HR.out) hpe
  have hlm := layD_len hrm
  have hln : (outD (layD l) ++ [(x1, x2)]).length = N + 1 := by rw [List.length_append, (outD_perm HR.out).length_eq, ← HN.out]; rfl
  rw [hln] at hlm
  obtain ⟨M2, HM2⟩ : ∃ M, Hid (16 * (N + 1) = M) := ⟨_, rfl⟩
  rw [HM2.out] at hlm
  obtain ⟨p4, c4, rfl⟩ := bytes_open hu.1 M2 hlm
  have HRM := Lib.hid hrm
  have HU := Lib.hid hu
  have HB4 : Hid (Below w.heap.size w w4) := Below.step HB3.out hb4
  have hx4 := (hb4.block _ (heap_lt HX3.out)).trans HX3.out
  have a4 : w4.cell? ⟨w.heap.size, 0, none⟩ = some (.string x1) := cell_of_row _ _ _ _ _ _ hx4
  have HX4 := Lib.hid hx4
  have HV4 : Hid (BytesIn w4 (.slice p3 M c3) (layD l)) := HV3.out.below hb4
  have hf := find_any (.slice p4 M2 c4) _ x1 w4 hu (byteL_lay hrm) (list_lay hrm)
  have hfo := findD_ok hrm x1
  have hq : (findD (layD (outD (layD l) ++ [(x1, x2)])) x1).1 = x2 ∧ (findD (layD (outD (layD l) ++ [(x1, x2)])) x1).2.2 = 0 := by
    rcases hfo with ⟨y, hy, k1, k2, k3, _⟩ | ⟨k1, _⟩
    · have := nodup_same ((rightD_zero _).1 hrm).2.2 hy (show (x1, x2) ∈ outD (layD l) ++ [(x1, x2)] by simp) k1
      rw [this] at k2
      exact ⟨k2, k3⟩
    · exact absurd rfl (k1 (x1, x2) (by simp))
  obtain ⟨q2, Hq2⟩ : ∃ q, Hid ((findD (layD (outD (layD l) ++ [(x1, x2)])) x1).2.1 = q) := ⟨_, rfl⟩
  unfold FindRes at hf
  rw [hq.1, hq.2, Hq2.out] at hf
  have HF := Lib.hid hf
  clear hf hfo hq hrm hlm hln hu hb4 hx4 hpe
  go_wp2_with fail
  refine HF.out.mono ?_
  rintro e w5 ⟨rfl, hb5⟩
  have HB5 : Hid (Below w.heap.size w w5) := Below.step HB4.out hb5
  have hx5 := (hb5.block _ (heap_lt HX4.out)).trans HX4.out
  have a5 : w5.cell? ⟨w.heap.size, 0, none⟩ = some (.string x1) := cell_of_row _ _ _ _ _ _ hx5
  have HX5 := Lib.hid hx5
  have HV5 : Hid (BytesIn w5 (.slice p3 M c3) (layD l)) := HV4.out.below hb5
  have HOUT := Lib.hid (out_any (.slice p4 M2 c4) _ x1 w5 (HU.out.below hb5) (byteL_lay HRM.out) (list_lay HRM.out))
  clear hb5 hx5
  go_wp2_with fail
  refine HOUT.out.mono ?_
  intro e w6 hres
  obtain ⟨hno, _⟩ | ⟨i, hi, hT, o, rfl, ho, hb6⟩ := hres
  case inl =>
    have hmem : (x1, x2) ∈ outD (layD (outD (layD l) ++ [(x1, x2)])) := (outD_perm HRM.out).mem_iff.2 (by simp)
    have := hno _ hmem
    simp at this
  case inr =>
  have hback := puts_back HR.out HRM.out hi (by simpa using hT)
  rw [hback] at ho
  have HB6 : Hid (Below w.heap.size w w6) := Below.step HB5.out hb6
  have hx6 := (hb6.block _ (heap_lt HX5.out)).trans HX5.out
  have a6 : w6.cell? ⟨w.heap.size, 1, none⟩ = some (.int .i64 x2) := cell_of_row _ _ _ _ _ _ hx6
  have heq := equalBytes_dec o (.slice p3 M c3) (layD l) (layD l) w6 ho.1 (HV5.out.below hb6).1 rfl (by rw [HLEN.out]; have := HM.out; omega)
  have hee : eqB (layD l) (layD l) = true := by unfold eqB; simp
  rw [hee] at heq
  have HEQ := Lib.hid heq
  have wm : IntKind.i64.wrap ((M : Int) + 16) = (M2 : Int) := by rw [IntWalk.i64_in _ (by have := HM.out; omega)]; have := HM.out; have := HM2.out; omega
  clear hback ho hb6 hx6 heq hee hT hi
  go_wp2_with fail
  refine HEQ.out.mono ?_
  rintro e w7 ⟨rfl, hb7⟩
  have HB7 : Hid (Below w.heap.size w w7) := Below.step HB6.out hb7
  clear hb7
  go_wp2
  go_ret
  exact ⟨rfl, HB7.out⟩
end Go.Proofs.YtheiaebmemcbhaaDoor
