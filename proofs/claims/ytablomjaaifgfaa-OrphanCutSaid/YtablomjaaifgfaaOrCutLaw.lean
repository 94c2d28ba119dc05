/- OrphanCut: a file's sectors are those that it has still, and those that are gone; all else of it stays: the statement in full, for all inputs, no condition. -/
import Derived.Test.YtablomjaaifgfaaOrTwice
import Derived.Test.YtablomjaaifgfaaIntsDel
import Derived.Deep.RegionHeldLaw
namespace Go.Proofs.Ytablomjaaifgfaa
open Go.ChangeShapes Go.WideShapes Go.ChangeAt Go.RowKit

/-- .. as a step of a region that draws its order. -/
theorem step_append_ints {w : World} {ops : Array Oper} {o : Oper} {a : Act} {K : Act → World → Prop} {Q : Exit → Act → World → Prop} {X : Prop} (hgd : o.guard = none) (s x : Operand)
    (ho : o.op = .call { callee := .builtin .append, args := #[s, x], argTypes := #[22, 22] }) (v pv : Value) (base base2 : Nat) (O L : List Int) (hs : a.eval s = v) (hx : a.eval x = pv)
    (hO : w.ownsRow base 3 1 v O.length (ints O)) (hP : w.ownsRow base2 3 1 pv L.length (ints L)) (hb2 : base ≤ w.heap.size) (hlen : O.length + L.length ≤ 1000000)
    (h : ∀ v' w', w'.ownsRow base 3 1 v' (O ++ L).length (ints (O ++ L)) → w.grownBy w' v.ownBlock → K (a.put o.dst v') w') : if Region.wanted o (yielded ops a.tmps) = true then Oper.wp Try.prog o a w K Q else X := by
  rw [if_pos (by simp [Region.wanted, hgd])]
  obtain ⟨i0, hi0, hz0, hz1, hz2⟩ := info_parts intInfoC
  have happ : ints (O ++ L) = ints O ++ ints L := by simp [ints]
  obtain ⟨hl, ⟨rfl, h0⟩ | ⟨g, cap, cur, rfl, hg, hh, hc, hm, hsz, ht⟩⟩ := hP
  · have e2 : L = [] := List.length_eq_zero_iff.1 h0
    subst e2
    have hrun := run_append_owned_none (P := Try.prog) (w := w) base 22 o.type 3 i0 1 intsTC hi0 v O.length (ints O) hO
    unfold Oper.wp
    simp only [execOp, ho, resolve, invoke, builtin, Sem.run_bind, Sem.run_pure, Result.andThen_ok, List.map_toArray, List.map_cons, List.map_nil, hs, hx, hrun]
    exact h v w (by rw [List.append_nil]; exact hO) ⟨rfl, rfl, rfl, Nat.le_refl _, fun _ _ _ => rfl⟩
  · refine wp_append_own w s x 22 ho base 3 i0 (.int .i64 0) 1 8 intsTC hi0 hz0 hz1 hz2 rfl (by decide) v O.length (ints O) hs hO ⟨g, 0, none⟩ L.length cap (ints L) hx hl (fun j u hu => ?_) (ints_oneC L) (by unfold maxLen; omega) (by omega) hb2 fun v' w' hown hgrow _ => h v' w' ?_ hgrow
    · have hadd : (⟨g, 0, none⟩ : Addr).add j = ⟨g, j, none⟩ := by unfold Addr.add; split <;> simp_all
      rw [hadd, cell_of_row _ _ _ _ _ _ hh]
      rw [← ht, List.getElem?_take] at hu
      split at hu
      · simpa using hu
      · cases hu
    · rw [happ, List.length_append]; exact hown

set_option maxRecDepth 100000 in
set_option maxHeartbeats 8000000 in
theorem orphanCut_raw (k m u g s l up : Int) (v : Value) (P : List Int) (hl : P.length ≤ maxLen) (a : Int) (w : World) (h : IntsAt w v P) :
    Calls Try.prog 5 #[.agg #[.int .i64 k, .int .i64 m, .int .i64 u, .int .i64 g, .int .i64 s, .int .i64 l, .int .i64 up, v], .int .i64 a] w fun e w' => e = .returned (.bool true) ∧ Below w.heap.size w w' := by
  unfold maxLen at hl
  obtain ⟨N, HN⟩ : ∃ N, Hid (P.length = N) := ⟨_, rfl⟩
  obtain ⟨pv, pcv, hv⟩ : ∃ p c, v = .slice p N c := by
    rw [← HN.out]
    obtain ⟨_, ⟨h0, a0, c0, rfl⟩ | ⟨g, o, cap, rfl, hc⟩⟩ := h
    · exact ⟨a0, c0, by rw [h0]⟩
    · exact ⟨_, cap, rfl⟩
  subst hv
  rw [HN.out] at hl
  have H := Lib.hid h
  clear h
  go_enter Try.func5, Try.ntmps5
  go_wp2_with fail
  refine (cut_true _).mono ?_
  rintro e w1 ⟨rfl, hb1⟩
  have Q1 := Lib.hid (heap_below hb1 (heap_alloc_new w (.cells #[.int .i64 k, .int .i64 m, .int .i64 u, .int .i64 g, .int .i64 s, .int .i64 l, .int .i64 up, (.slice pv N pcv)] 24)))
  have HB1 : Hid (Below w.heap.size w w1) := Below.step ((Below.refl _ _).alloc (Nat.le_refl _) _) hb1
  have H1 : Hid (IntsAt w1 (.slice pv N pcv) P) := RowAt.below H.out HB1.out
  have hlt1 : w.heap.size < w1.heap.size := heap_lt Q1.out
  clear hb1
  obtain ⟨x0, x1, x2, x3, x4, x5, x6, x7⟩ := node_cells Q1.out
  by_cases h30 : 30 < (N : Int)
  · have b1 : decide (30 < (N : Int)) = true := by rw [decide_eq_true_iff]; exact h30
    go_wp2
    go_ret
    exact ⟨rfl, HB1.out⟩
  have b1 : decide (30 < (N : Int)) = false := by rw [decide_eq_false_iff_not]; exact h30
  have hN30 : N ≤ 30 := by omega
  obtain ⟨c, Hc⟩ : ∃ c, Hid (rightN k m u g s l up P = c) := ⟨_, rfl⟩
  have HRI := Lib.hid (right_node k m u g s l up _ P _ H1.out (by rw [HN.out]; omega))
  rw [Hc.out] at HRI
  by_cases hc0 : c = 0
  case neg =>
    have n1 : (c == 0) = false := by simpa using hc0
    have n2 : (c != 0) = true := by simp [bne, n1]
    clear hc0
    go_wp2_with fail
    refine HRI.out.mono ?_
    rintro e w2 ⟨rfl, hb2⟩
    have hB2 := Below.step HB1.out hb2
    clear hb2
    go_wp2
    go_ret
    exact ⟨rfl, hB2⟩
  subst hc0
  go_wp2_with fail
  refine HRI.out.mono ?_
  rintro e w2 ⟨rfl, hb2⟩
  have Q2 := Lib.hid (heap_below hb2 Q1.out)
  have HB2 := Lib.hid (Below.step HB1.out hb2)
  have H2 : Hid (IntsAt w2 (.slice pv N pcv) P) := RowAt.below H1.out hb2
  have hlt2 : w.heap.size < w2.heap.size := heap_lt Q2.out
  clear hb2 x0 x1 x2 x3 x4 x5 x6 x7
  obtain ⟨x0, x1, x2, x3, x4, x5, x6, x7⟩ := node_cells Q2.out
  by_cases hk0 : k = 0
  · have n1 : (k == 0) = true := by simpa using hk0
    go_wp2
    go_ret
    exact ⟨rfl, HB2.out⟩
  have n1 : (k == 0) = false := by simpa using hk0
  have HK0 : Hid (k ≠ 0) := hk0
  obtain ⟨hs0, hPr, hPl, _⟩ := right_parts Hc.out hk0
  have HPL : Hid (P.length = blkN s) := hPl
  have hPl8 : N ≤ 8 := by rw [← HN.out, hPl]; exact blkN_le hs0.2
  clear hPr hPl hk0 h30

  obtain ⟨A, HA⟩ : ∃ A, Hid (pkN a 513 = A) := ⟨_, rfl⟩
  have hA : A < 513 := by rw [← HA.out]; exact pkN_lt a 513 (by omega) (by omega)
  go_wp2_with fail
  refine (pickN a 513 _ (by omega) (by omega)).mono ?_
  rw [HA.out]
  rintro e w' ⟨rfl, rfl⟩
  obtain ⟨K, HK⟩ : ∃ K, Hid (blkN (A : Int) = K) := ⟨_, rfl⟩
  have hK8 : K ≤ 8 := by rw [← HK.out]; exact blkN_le (by omega)
  have HRX : Hid (rightN k m u g (A : Int) l up (resP P K) = 0) := by rw [← HK.out]; exact cut_right Hc.out HK0.out (by omega) (by omega)
  have HC1 := Lib.hid (cut_any k m u g s l up (.slice pv N pcv) P (A : Int) w2 H2.out Hc.out HK0.out (by omega) (by omega))
  unfold CutRes at HC1
  rw [HK.out] at HC1
  obtain ⟨ht0, ht1, ht2⟩ := tailP_in P K s (A : Int)
  obtain ⟨tl, Htl⟩ : ∃ t, Hid (tailP P K s (A : Int) = t) := ⟨_, rfl⟩
  rw [Htl.out] at HC1 ht0 ht1 ht2
  have HT2 := Lib.hid ht2
  clear ht2 n1 b1
  go_wp2_with fail
  refine HC1.out.mono ?_
  rintro e w4 ⟨xq, xc, g1, rfl, hx4, hg4, hb4⟩
  have hbA : Below w4.heap.size w4 (w4.alloc (.cells #[.int .i64 k, .int .i64 m, .int .i64 u, .int .i64 g, .int .i64 (A : Int), .int .i64 l, .int .i64 up, (.slice xq K xc)] 24)) := (Below.refl _ _).alloc (Nat.le_refl _) _
  have HB4 : Hid (Below w.heap.size w (w4.alloc (.cells #[.int .i64 k, .int .i64 m, .int .i64 u, .int .i64 g, .int .i64 (A : Int), .int .i64 l, .int .i64 up, (.slice xq K xc)] 24))) := Below.step (Below.step HB2.out hb4) hbA
  have Q4 : Hid ((w4.alloc (.cells #[.int .i64 k, .int .i64 m, .int .i64 u, .int .i64 g, .int .i64 (A : Int), .int .i64 l, .int .i64 up, (.slice xq K xc)] 24)).heap[w.heap.size]? = some (.cells #[.int .i64 k, .int .i64 m, .int .i64 u, .int .i64 g, .int .i64 s, .int .i64 l, .int .i64 up, (.slice pv N pcv)] 24 (0, 0))) := heap_below hbA (heap_below hb4 Q2.out)
  have QX4 : Hid ((w4.alloc (.cells #[.int .i64 k, .int .i64 m, .int .i64 u, .int .i64 g, .int .i64 (A : Int), .int .i64 l, .int .i64 up, (.slice xq K xc)] 24)).heap[w4.heap.size]? = some (.cells #[.int .i64 k, .int .i64 m, .int .i64 u, .int .i64 g, .int .i64 (A : Int), .int .i64 l, .int .i64 up, (.slice xq K xc)] 24 (0, 0))) := heap_alloc_new _ _
  have hlx : (resP P K).length = K := resP_len P K
  have HX4 : Hid ((w4.alloc (.cells #[.int .i64 k, .int .i64 m, .int .i64 u, .int .i64 g, .int .i64 (A : Int), .int .i64 l, .int .i64 up, (.slice xq K xc)] 24)).ownsRow w.heap.size 3 1 (.slice xq K xc) (resP P K).length (ints (resP P K))) := by
    show World.ownsRow _ _ _ _ _ _ _
    rw [hlx]
    exact owns_base (ownsRow_keep hx4 hbA) HB2.out.size
  have HG4 := Lib.hid (ownsRow_keep hg4 hbA)
  have hlA : (goneP P K).length ≤ 8 := by have := goneP_len P K; rw [HN.out] at this; omega
  have HLA : Hid ((srtI (goneP P K)).length = (goneP P K).length) := (srtI_perm _).length_eq
  have HALL := Lib.hid (cut_all P K)
  have HSRT := Lib.hid (srtI_sorted (goneP P K))
  rw [← HLA.out] at HG4 hlA
  generalize srtI (goneP P K) = GA at *
  clear hx4 hg4 hb4 hbA HLA HC1 x0 x1 x2 x3 x4 x5 x6 x7
  have HG4I := Lib.hid (own_ints_at HG4.out)
  have hlt4 : w4.heap.size < (w4.alloc (.cells #[.int .i64 k, .int .i64 m, .int .i64 u, .int .i64 g, .int .i64 (A : Int), .int .i64 l, .int .i64 up, (.slice xq K xc)] 24)).heap.size := by simp
  go_wp2_with fail
  generalize (w4.alloc (.cells #[.int .i64 k, .int .i64 m, .int .i64 u, .int .i64 g, .int .i64 (A : Int), .int .i64 l, .int .i64 up, (.slice xq K xc)] 24)) = w7 at *
  have kx : w7.cell? ⟨w4.heap.size, 7, none⟩ = some (.slice xq K xc) := (node_cells QX4.out).2.2.2.2.2.2.2
  have HCL := Lib.hid (cloneInts_any g1 GA w7.drew HG4I.out (by omega))
  unfold IntsRes at HCL
  have HGL := Lib.hid hlA
  have HXL : Hid ((resP P K).length = K) := hlx
  clear hlA hlx
  refine wp_region_noPanic ?_
  go_region_held_law (fun w' => w'.cell? ⟨w4.heap.size, 7, none⟩ = some (.slice xq K xc))
    (first
      | (go_keep; done)
      | exact m1
      | exact m2)
    (first
      | (go_at_call 10; refine HCL.out.mono ?_; rintro e w8 ⟨v8, rfl, ho8, hb8, hz8⟩
         have m1 : w8.cell? ⟨w4.heap.size, 7, none⟩ = some (.slice xq K xc) := (hb8.cell (p := ⟨w4.heap.size, 7, none⟩) hlt4).trans kx
         have HO8 := Lib.hid ho8
         have HB8 : Hid (Below w7.heap.size w7 w8) := (Below.refl _ _).drew.trans hb8
         have HX8 := Lib.hid (ownsRow_keep HX4.out HB8.out)
         have hz78 : w7.heap.size ≤ w8.heap.size := hz8
         clear ho8 hb8 hz8)
      | (refine step_append_ints (by rfl) _ _ (by rfl) _ _ w7.heap.size w.heap.size GA (resP P K) (by rfl) (by rfl) HO8.out HX8.out hz78 (by rw [HXL.out]; have := HGL.out; omega) ?_; intro v9 w9 hown hgrow
         have HO9 := Lib.hid hown
         have HB9 : Hid (Below w7.heap.size w7 w9) := Below.grown HB8.out hgrow hz78 (fun q hq => (HO8.out.lt q hq).1)
         have m2 : w9.cell? ⟨w4.heap.size, 7, none⟩ = some (.slice xq K xc) := (HB9.out.cell (p := ⟨w4.heap.size, 7, none⟩) hlt4).trans kx
         clear hown hgrow))
  all_goals
    refine NoPanic.normal ?_
    have hl9 : (GA ++ resP P K).length ≤ 1000000 := by rw [List.length_append, HXL.out]; have := HGL.out; omega
    have HDE := Lib.hid (deleteZ_any 19 closZ1_eg closZ1 w7.heap.size v9 (GA ++ resP P K) w9 hl9 HO9.out)
    unfold fnZ ZRes at HDE
    have hl10 : (nzF (GA ++ resP P K)).length ≤ 1000000 := Nat.le_trans (nzF_len _) hl9
    clear kx HCL m1 m2 hl9
    go_wp2_with fail
    refine HDE.out.mono ?_
    rintro e w10 ⟨v10, rfl, ho10, hb10, hz10⟩
    have HO10 := Lib.hid ho10
    have HB10 : Hid (Below w7.heap.size w7 w10) := HB9.out.trans hb10
    have Q10 := Lib.hid (heap_below HB10.out Q4.out)
    have HW10 := Lib.hid (Below.step HB4.out HB10.out)
    clear ho10 hb10 hz10 HDE
    obtain ⟨x0, x1, x2, x3, x4, x5, x6, x7⟩ := node_cells Q10.out
    have HCN := Lib.hid (cloneInts_any (.slice pv N pcv) P w10 (RowAt.below H.out HW10.out) (by rw [HN.out]; omega))
    unfold IntsRes at HCN
    go_wp2_with fail
    refine HCN.out.mono ?_
    rintro e w11 ⟨v11, rfl, ho11, hb11, hz11⟩
    have HB11 := Lib.hid hb11
    have HDN := Lib.hid (deleteZ_any 20 closZ2_eg closZ2 w10.heap.size v11 P w11 (by rw [HN.out]; omega) ho11)
    unfold fnZ ZRes at HDN
    clear ho11 hb11 x0 x1 x2 x3 x4 x5 x6 x7 HCN
    go_wp2_with fail
    refine HDN.out.mono ?_
    rintro e w12 ⟨v12, rfl, ho12, hb12, hz12⟩
    have HB12 : Hid (Below w10.heap.size w10 w12) := HB11.out.trans hb12
    have HO12 := Lib.hid ho12
    have HOA := Lib.hid (ownsRow_keep HO10.out HB12.out)
    clear ho12 hb12 HDN hz11 hz12
    have hlP : (nzF P).length ≤ 1000000 := by have := nzF_len P; rw [HN.out] at this; omega
    have HS1 := Lib.hid (sort_own v10 (nzF (GA ++ resP P K)) w7.heap.size w12 HOA.out hl10)
    go_wp2_with fail
    refine HS1.out.mono ?_
    rintro e w13 ⟨rfl, ho13, hg13⟩
    have HB712 : Hid (Below w7.heap.size w7 w12) := HB10.out.trans (HB12.out.mono HB10.out.size)
    have HB13 : Hid (Below w7.heap.size w7 w13) := Below.grown HB712.out hg13 HB712.out.size (fun q hq => (HOA.out.lt q hq).1)
    have HP13 : Hid (w13.ownsRow w10.heap.size 3 1 v12 (nzF P).length (ints (nzF P))) := owns_stay HO12.out fun b hb => hg13.block b (HO12.out.lt b hb).2 (fun e => by
      have h1 := (HO10.out.lt b e.symm).2
      have h2 := (HO12.out.lt b hb).1
      omega)
    have HO13 := Lib.hid ho13
    clear ho13 hg13 HS1
    have HS2 := Lib.hid (sort_own v12 (nzF P) w10.heap.size w13 HP13.out hlP)
    go_wp2_with fail
    refine HS2.out.mono ?_
    rintro e w14 ⟨rfl, ho14, hg14⟩
    have HB14 : Hid (Below w7.heap.size w7 w14) := Below.grown HB13.out hg14 HB13.out.size (fun q hq => Nat.le_trans HB10.out.size (HP13.out.lt q hq).1)
    have HO14 : Hid (w14.ownsRow w7.heap.size 3 1 v10 (nzF (GA ++ resP P K)).length (ints (srtI (nzF (GA ++ resP P K))))) := owns_stay HO13.out fun b hb => hg14.block b (HO13.out.lt b hb).2 (fun e => by
      have h1 := (HO10.out.lt b hb).2
      have h2 := (HP13.out.lt b e.symm).1
      omega)
    have HP14 := Lib.hid ho14
    have Q14 := Lib.hid (heap_below HB14.out Q4.out)
    have QX14 := Lib.hid (heap_below HB14.out QX4.out)
    have HW14 := Lib.hid (Below.step HB4.out HB14.out)
    have HG14 := Lib.hid (RowAt.below HG4I.out HB14.out)
    have HX14 := Lib.hid (own_ints_at (ownsRow_keep HX4.out HB14.out))
    clear ho14 hg14 HS2 HO13 HP13 HOA HO12 HB12 HB13 HB712 HB11 HO10 HB10 HO9 HB9 HO8 HB8 HX8 hz78
    have b14 : w.heap.size < w14.heap.size := heap_lt Q14.out
    have c14 : w4.heap.size < w14.heap.size := heap_lt QX14.out
    obtain ⟨x0, x1, x2, x3, x4, x5, x6, x7⟩ := node_cells Q14.out
    obtain ⟨y0, y1, y2, y3, y4, y5, y6, y7⟩ := node_cells QX14.out
    go_wp2_with fail
    go_region
    have hbA : Below w14.heap.size w14 ((w14.alloc (.cells #[.int .i64 k, .int .i64 m, .int .i64 u, .int .i64 g, .int .i64 s, .int .i64 l, .int .i64 up, (.slice pv N pcv)] 24)).drew) := ((Below.refl _ _).alloc (Nat.le_refl _) _).drew
    have Q15 : Hid (((w14.alloc (.cells #[.int .i64 k, .int .i64 m, .int .i64 u, .int .i64 g, .int .i64 s, .int .i64 l, .int .i64 up, (.slice pv N pcv)] 24)).drew).heap[w.heap.size]? = some (.cells #[.int .i64 k, .int .i64 m, .int .i64 u, .int .i64 g, .int .i64 s, .int .i64 l, .int .i64 up, (.slice pv N pcv)] 24 (0, 0))) := heap_below hbA Q14.out
    have QX15 : Hid (((w14.alloc (.cells #[.int .i64 k, .int .i64 m, .int .i64 u, .int .i64 g, .int .i64 s, .int .i64 l, .int .i64 up, (.slice pv N pcv)] 24)).drew).heap[w4.heap.size]? = some (.cells #[.int .i64 k, .int .i64 m, .int .i64 u, .int .i64 g, .int .i64 (A : Int), .int .i64 l, .int .i64 up, (.slice xq K xc)] 24 (0, 0))) := heap_below hbA QX14.out
    have QK15 : Hid (((w14.alloc (.cells #[.int .i64 k, .int .i64 m, .int .i64 u, .int .i64 g, .int .i64 s, .int .i64 l, .int .i64 up, (.slice pv N pcv)] 24)).drew).heap[w14.heap.size]? = some (.cells #[.int .i64 k, .int .i64 m, .int .i64 u, .int .i64 g, .int .i64 s, .int .i64 l, .int .i64 up, (.slice pv N pcv)] 24 (0, 0))) := heap_alloc_new _ _
    have HW15 := Lib.hid (Below.step HW14.out hbA)
    have HG15 := Lib.hid (RowAt.below HG14.out hbA)
    have HX15 := Lib.hid (RowAt.below HX14.out hbA)
    have HA15 : Hid (IntsAt ((w14.alloc (.cells #[.int .i64 k, .int .i64 m, .int .i64 u, .int .i64 g, .int .i64 s, .int .i64 l, .int .i64 up, (.slice pv N pcv)] 24)).drew) v10 (srtI (nzF P))) := by
      have h := ownsRow_keep HO14.out hbA
      rw [HALL.out] at h
      exact own_ints_atN h (by rw [← HALL.out]; exact (srtI_perm _).length_eq)
    have HP15 : Hid (IntsAt ((w14.alloc (.cells #[.int .i64 k, .int .i64 m, .int .i64 u, .int .i64 g, .int .i64 s, .int .i64 l, .int .i64 up, (.slice pv N pcv)] 24)).drew) v12 (srtI (nzF P))) := own_ints_atN (ownsRow_keep HP14.out hbA) (srtI_perm _).length_eq
    have HI15 : Hid (IntsAt ((w14.alloc (.cells #[.int .i64 k, .int .i64 m, .int .i64 u, .int .i64 g, .int .i64 s, .int .i64 l, .int .i64 up, (.slice pv N pcv)] 24)).drew) (.slice pv N pcv) P) := RowAt.below H.out HW15.out
    have hls : (srtI (nzF P)).length ≤ 1000000 := by rw [(srtI_perm _).length_eq]; exact hlP
    generalize (w14.alloc (.cells #[.int .i64 k, .int .i64 m, .int .i64 u, .int .i64 g, .int .i64 s, .int .i64 l, .int .i64 up, (.slice pv N pcv)] 24)).drew = w15 at *
    clear hbA x0 x1 x2 x3 x4 x5 x6 x7 y0 y1 y2 y3 y4 y5 y6 y7
    have HRM := Lib.hid (right_node k m u g (A : Int) l up (.slice xq K xc) (resP P K) w15 HX15.out (by rw [HXL.out]; omega))
    rw [HRX.out] at HRM
    obtain ⟨y0, y1, y2, y3, y4, y5, y6, y7⟩ := node_cells QX15.out
    go_wp2_with fail
    refine HRM.out.mono ?_
    rintro e w16 ⟨rfl, hb16⟩
    have HB16 := Lib.hid hb16
    have QX16 := Lib.hid (heap_below hb16 QX15.out)
    have HEQ := Lib.hid (equalInts_true v10 v12 (srtI (nzF P)) w16 (RowAt.below HA15.out hb16) (RowAt.below HP15.out hb16) hls)
    clear hb16 y0 y1 y2 y3 y4 y5 y6 y7
    obtain ⟨y0, y1, y2, y3, y4, y5, y6, y7⟩ := node_cells QX16.out
    go_wp2_with fail
    refine HEQ.out.mono ?_
    rintro e w17 ⟨rfl, hb17⟩
    have HB17 := Lib.hid (Below.step HB16.out hb17)
    have Q17 := Lib.hid (heap_below HB17.out Q15.out)
    have QK17 := Lib.hid (heap_below HB17.out QK15.out)
    have HAL := Lib.hid (alike_true k m u g s l up (.slice pv N pcv) (.slice pv N pcv) P w17 (RowAt.below HI15.out HB17.out) (RowAt.below HI15.out HB17.out) (by rw [HN.out]; omega))
    clear hb17 y0 y1 y2 y3 y4 y5 y6 y7
    obtain ⟨x0, x1, x2, x3, x4, x5, x6, x7⟩ := node_cells Q17.out
    obtain ⟨y0, y1, y2, y3, y4, y5, y6, y7⟩ := node_cells QK17.out
    go_wp2_with fail
    refine HAL.out.mono ?_
    rintro e w18 ⟨rfl, hb18⟩
    have HB18 := Lib.hid (Below.step HB17.out hb18)
    have Q18 := Lib.hid (heap_below HB18.out Q15.out)
    have HIS := Lib.hid (isSorted_true g1 GA w18 (RowAt.below HG15.out HB18.out) (by have := HGL.out; omega) HSRT.out)
    clear hb18 x0 x1 x2 x3 x4 x5 x6 x7 y0 y1 y2 y3 y4 y5 y6 y7
    obtain ⟨x0, x1, x2, x3, x4, x5, x6, x7⟩ := node_cells Q18.out
    have b1 : decide (0 ≤ tl) = true := by rw [decide_eq_true_iff]; exact ht0
    have b2 : decide (tl < 64) = true := by rw [decide_eq_true_iff]; exact ht1
    by_cases htl : tl = 0
    · have b3 : (tl == 0) = true := by simpa using htl
      clear htl
      go_wp2_with fail
      refine HIS.out.mono ?_
      rintro e w19 ⟨rfl, hb19⟩
      have hB19 : Below w.heap.size w w19 := Below.step (Below.step HW15.out HB18.out) hb19
      clear hb19
      go_wp2
      go_ret
      exact ⟨rfl, hB19⟩
    · have b3 : (tl == 0) = false := by simpa using htl
      have htl2 : tl = (A : Int) % 64 ∧ (A : Int) < s := by
        rcases HT2.out with h | h
        · exact absurd h htl
        · exact h
      have b4 : (tl == (A : Int) % 64) = true := by rw [beq_iff_eq]; exact htl2.1
      have b5 : decide ((A : Int) < s) = true := by rw [decide_eq_true_iff]; exact htl2.2
      clear htl htl2
      go_wp2_with fail
      refine HIS.out.mono ?_
      rintro e w19 ⟨rfl, hb19⟩
      have hB19 : Below w.heap.size w w19 := Below.step (Below.step HW15.out HB18.out) hb19
      clear hb19
      go_wp2
      go_ret
      exact ⟨rfl, hB19⟩

-- CLOSING

set_option maxRecDepth 100000 in
theorem orphanCut_lifted (os : Os) (started : os.Started) (H : Type) (enc' : TypeId × Value → H) :
    ReturnsInHanded {} Try.checked os 5 .any (Rows.orphanCutSpec.pre6 enc' Try.prog Try.f5 Rows.orphanCutRow.domain false) (Rows.orphanCutSpec.post enc' Try.prog Try.f5 false true false false) := by
  refine returnsInHanded_of_change (C := Try.checked) Try.own started (by kernel_rfl) Try.func5
    (ChangeSpec.witness6 (enc := enc') (C := Try.checked) false ⟨#[], #[.agg #[.int .i64 0, .int .i64 0, .int .i64 0, .int .i64 0, .int .i64 0, .int .i64 0, .int .i64 0, .slice none 0 0], .int .i64 0], []⟩ 8 (by kernel_rfl) (by kernel_rfl) (by kernel_rfl) (by kernel_rfl)) ?_
  intro W base args ds gs before hval0 hW hcnd _
  have hval : ∀ (j : Nat) t v, Try.f5.params[j]? = some t → args[j]? = some v → Value.okWide Try.prog W .any base t v := hval0
  have hW' := hW
  obtain ⟨p, q, hA0, hV, rfl, hfz, hnd⟩ := hW
  have hA : DataW.TrodAll enc' Try.prog W 0 (fun _ => true) true Try.f5.params.toList args.toList ds p := hA0
  rw [Try.params5] at hA hval
  obtain ⟨v0, v1, d0, d1, p0, p1, rfl, rfl, rfl, h0, h1⟩ := trodAll_two hA
  obtain ⟨rfl, rfl⟩ := trodVars_none hV
  obtain ⟨nk, nm, nu, ng, ns, nl, nup, nv, Q, rfl, hI, hM, hs⟩ := open_nodeAt rfl Try.underlying24 (by kernel_rfl) (by kernel_rfl) rfl rfl rfl rfl rfl rfl rfl rfl (hval 0 24 v0 rfl rfl) h0
  obtain ⟨a, rfl, rfl, rfl, wa⟩ := open_int Try.underlying3 (hval 1 3 v1 rfl rfl) h1
  clear hA0 hval0
  refine (orphanCut_raw nk nm nu ng ns nl nup nv Q hM a W hI).mono fun e W' ⟨he, hw⟩ => ?_
  subst he
  exact ⟨_, rfl, law_post 4 Try.laidOut (by kernel_rfl) rfl rfl Try.underlying4 hW' rfl hw⟩

theorem orphanCut_holds : Rows.OrphanCutSaid :=
  OpenClaim.holds_of_wide 5 Try.f5 rfl rfl rfl rfl rfl rfl rfl ⟨rfl, rfl, rfl, rfl, rfl⟩ rfl rfl rfl rfl rfl (by kernel_rfl) Try.func5 (by kernel_rfl)
    (of_decide_eq_true (by kernel_rfl)) (by unfold Func.isWrapper; first | (rw [if_pos (by decide +kernel)]; kernel_rfl) | (rw [if_neg (by decide +kernel)]; exact ⟨rfl, rfl⟩))
    (fun os started H enc _ => orphanCut_lifted os started H enc)

end Go.Proofs.Ytablomjaaifgfaa
