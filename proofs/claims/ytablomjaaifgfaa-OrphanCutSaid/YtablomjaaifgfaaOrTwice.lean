/- OrphanTwice: cut to less, then to less yet, a file is what it is cut at once: the statement in full, for all inputs, no condition. -/
import Derived.Test.YtablomjaaifgfaaOrFact
import Derived.Test.YtablomjaaifgfaaDkPick
import Derived.Test.YtablomjaaifgfaaOpenNode2
import Derived.Test.YtablomjaaifgfaaOpenInts
import Derived.Test.YtablomjaaifgfaaLawEnd
import Derived.ChangeShapes
import Derived.Laws.AppendOwnNone
namespace Go.Proofs.Ytablomjaaifgfaa
open Go.ChangeShapes Go.WideShapes Go.ChangeAt Go.RowKit

theorem own_ints_atN {w : World} {base n : Nat} {v : Value} {l : List Int} (h : w.ownsRow base 3 1 v n (ints l)) (hn : l.length = n) : IntsAt w v l := by
  subst hn
  exact own_ints_at h
/-- Ints of the call's own, appended to others of its own. -/
theorem wpList_append_ints {w : World} {ops : Array Oper} {rest : List Oper} {o : Oper} {a : Act} {Q : Exit → Act → World → Prop} (hgd : o.guard = none) (s x : Operand)
    (ho : o.op = .call { callee := .builtin .append, args := #[s, x], argTypes := #[22, 22] }) (v pv : Value) (base base2 : Nat) (O L : List Int) (hs : a.eval s = v) (hx : a.eval x = pv)
    (hO : w.ownsRow base 3 1 v O.length (ints O)) (hP : w.ownsRow base2 3 1 pv L.length (ints L)) (hb2 : base ≤ w.heap.size) (hlen : O.length + L.length ≤ 1000000)
    (h : ∀ v' w', w'.ownsRow base 3 1 v' (O ++ L).length (ints (O ++ L)) → w.grownBy w' v.ownBlock → wpList Try.prog ops Q rest (a.put o.dst v') w') : wpList Try.prog ops Q (o :: rest) a w := by
  obtain ⟨i0, hi0, hz0, hz1, hz2⟩ := info_parts intInfoC
  have happ : ints (O ++ L) = ints O ++ ints L := by simp [ints]
  obtain ⟨hl, ⟨rfl, h0⟩ | ⟨g, cap, cur, rfl, hg, hh, hc, hm, hsz, ht⟩⟩ := hP
  · have e2 : L = [] := List.length_eq_zero_iff.1 h0
    subst e2
    refine wpList_append_own_none hgd s x 22 ho base 3 i0 1 intsTC hi0 v O.length (ints O) hs hO hx (h v w ?_ ⟨rfl, rfl, rfl, Nat.le_refl _, fun _ _ _ => rfl⟩)
    rw [List.append_nil]; exact hO
  · refine wpList_append_own w hgd s x 22 ho base 3 i0 (.int .i64 0) 1 8 intsTC hi0 hz0 hz1 hz2 rfl (by decide) v O.length (ints O) hs hO ⟨g, 0, none⟩ L.length cap (ints L) hx hl (fun j u hu => ?_) (ints_oneC L) (by unfold maxLen; omega) (by omega) hb2 fun v' w' hown hgrow _ => h v' w' ?_ hgrow
    · have hadd : (⟨g, 0, none⟩ : Addr).add j = ⟨g, j, none⟩ := by unfold Addr.add; split <;> simp_all
      rw [hadd, cell_of_row _ _ _ _ _ _ hh]
      rw [← ht, List.getElem?_take] at hu
      split at hu
      · simpa using hu
      · cases hu
    · rw [happ, List.length_append]; exact hown

set_option maxRecDepth 100000 in
set_option maxHeartbeats 8000000 in
theorem orphanTwice_raw (k m u g s l up : Int) (v : Value) (P : List Int) (hl : P.length ≤ maxLen) (a b : Int) (w : World) (h : IntsAt w v P) :
    Calls Try.prog 3 #[.agg #[.int .i64 k, .int .i64 m, .int .i64 u, .int .i64 g, .int .i64 s, .int .i64 l, .int .i64 up, v], .int .i64 a, .int .i64 b] w fun e w' => e = .returned (.bool true) ∧ Below w.heap.size w w' := by
  unfold maxLen at hl
  obtain ⟨N, HN⟩ : ∃ N, Hid (P.length = N) := ⟨_, rfl⟩
  obtain ⟨pv, pcv, hv⟩ : ∃ p c, v = .slice p N c := by
    rw [← HN.out]
    obtain ⟨_, ⟨h0, a0, c0, rfl⟩ | ⟨g, o, cap, rfl, hc⟩⟩ := h
    · exact ⟨a0, c0, by rw [h0]⟩
    · exact ⟨_, cap, rfl⟩
  subst hv
  rw [HN.out] at hl
  have H := Lib.hid h
  clear h
  go_enter Try.func3, Try.ntmps3
  go_wp2_with fail
  refine (cut_true _).mono ?_
  rintro e w1 ⟨rfl, hb1⟩
  have Q1 := Lib.hid (heap_below hb1 (heap_alloc_new w (.cells #[.int .i64 k, .int .i64 m, .int .i64 u, .int .i64 g, .int .i64 s, .int .i64 l, .int .i64 up, (.slice pv N pcv)] 24)))
  have HB1 : Hid (Below w.heap.size w w1) := Below.step ((Below.refl _ _).alloc (Nat.le_refl _) _) hb1
  have H1 : Hid (IntsAt w1 (.slice pv N pcv) P) := RowAt.below H.out HB1.out
  have hlt1 : w.heap.size < w1.heap.size := heap_lt Q1.out
  clear hb1
  obtain ⟨x0, x1, x2, x3, x4, x5, x6, x7⟩ := node_cells Q1.out
  by_cases h30 : 30 < (N : Int)
  · have b1 : decide (30 < (N : Int)) = true := by rw [decide_eq_true_iff]; exact h30
    go_wp2
    go_ret
    exact ⟨rfl, HB1.out⟩
  have b1 : decide (30 < (N : Int)) = false := by rw [decide_eq_false_iff_not]; exact h30
  have hN30 : N ≤ 30 := by omega
  obtain ⟨c, Hc⟩ : ∃ c, Hid (rightN k m u g s l up P = c) := ⟨_, rfl⟩
  have HRI := Lib.hid (right_node k m u g s l up _ P _ H1.out (by rw [HN.out]; omega))
  rw [Hc.out] at HRI
  by_cases hc0 : c = 0
  case neg =>
    have n1 : (c == 0) = false := by simpa using hc0
    have n2 : (c != 0) = true := by simp [bne, n1]
    clear hc0
    go_wp2_with fail
    refine HRI.out.mono ?_
    rintro e w2 ⟨rfl, hb2⟩
    have hB2 := Below.step HB1.out hb2
    clear hb2
    go_wp2
    go_ret
    exact ⟨rfl, hB2⟩
  subst hc0
  go_wp2_with fail
  refine HRI.out.mono ?_
  rintro e w2 ⟨rfl, hb2⟩
  have Q2 := Lib.hid (heap_below hb2 Q1.out)
  have HB2 := Lib.hid (Below.step HB1.out hb2)
  have H2 : Hid (IntsAt w2 (.slice pv N pcv) P) := RowAt.below H1.out hb2
  have hlt2 : w.heap.size < w2.heap.size := heap_lt Q2.out
  clear hb2 x0 x1 x2 x3 x4 x5 x6 x7
  obtain ⟨x0, x1, x2, x3, x4, x5, x6, x7⟩ := node_cells Q2.out
  by_cases hk0 : k = 0
  · have n1 : (k == 0) = true := by simpa using hk0
    go_wp2
    go_ret
    exact ⟨rfl, HB2.out⟩
  have n1 : (k == 0) = false := by simpa using hk0
  have HK0 : Hid (k ≠ 0) := hk0
  obtain ⟨hs0, hPr, hPl, _⟩ := right_parts Hc.out hk0
  have HPL : Hid (P.length = blkN s) := hPl
  have hPl8 : N ≤ 8 := by rw [← HN.out, hPl]; exact blkN_le hs0.2
  clear hPr hPl hk0 h30

  have q1 : IntKind.i64.wrap (s + 1) = s + 1 := IntWalk.i64_in _ (by omega)
  have hAs : (pkN a (s + 1) : Int) ≤ s := by have := pk_range a (s + 1) (by omega) (by omega); unfold pkN; omega
  have hBs : (pkN b (s + 1) : Int) ≤ s := by have := pk_range b (s + 1) (by omega) (by omega); unfold pkN; omega
  have HPK := Lib.hid (fun x W => (pickN x (s + 1) W (by omega) (by omega)).mono fun e w' h => (⟨h.1, h.2.symm⟩ : e = _ ∧ w' = W))
  have HA := Lib.hid hAs
  have HB := Lib.hid hBs
  clear hAs hBs
  go_wp2
  go_quiet ((go_at_call 8; exact Calls.quiet_of_same (HPK.out _ _)))
  have hA := HA.out
  have hB := HB.out
  generalize pkN a (s + 1) = A at *
  generalize pkN b (s + 1) = B at *
  have Q3 : Hid ((w2.drewN nq).heap[w.heap.size]? = some (.cells #[.int .i64 k, .int .i64 m, .int .i64 u, .int .i64 g, .int .i64 s, .int .i64 l, .int .i64 up, (.slice pv N pcv)] 24 (0, 0))) := Q2.out
  have HB3 : Hid (Below w.heap.size w (w2.drewN nq)) := below_di HB2.out nq
  have H3 : Hid (IntsAt (w2.drewN nq) (.slice pv N pcv) P) := RowAt.below H.out HB3.out
  generalize w2.drewN nq = w3 at *
  clear x0 x1 x2 x3 x4 x5 x6 x7
  obtain ⟨x0, x1, x2, x3, x4, x5, x6, x7⟩ := node_cells Q3.out
  have hM0 : 0 ≤ (max (A : Int) (B : Int)) := by omega
  have hMs : (max (A : Int) (B : Int)) ≤ s := by omega
  have hm0 : 0 ≤ (min (A : Int) (B : Int)) := by omega
  have hmM : (min (A : Int) (B : Int)) ≤ (max (A : Int) (B : Int)) := by omega
  obtain ⟨Kb, HKb⟩ : ∃ K, Hid (blkN (max (A : Int) (B : Int)) = K) := ⟨_, rfl⟩
  obtain ⟨Ks, HKs⟩ : ∃ K, Hid (blkN (min (A : Int) (B : Int)) = K) := ⟨_, rfl⟩
  have hKbs : Ks ≤ Kb := by rw [← HKb.out, ← HKs.out]; exact blkN_mono hmM
  have HKP : Hid (Kb ≤ P.length) := by show _ ≤ _; rw [← HKb.out, HPL.out]; exact blkN_mono hMs
  have HTW := Lib.hid (cut_twice P Kb Ks hKbs HKP.out)
  have HRX : Hid (rightN k m u g (max (A : Int) (B : Int)) l up (resP P Kb) = 0) := by rw [← HKb.out]; exact cut_right Hc.out HK0.out hM0 (by omega)
  have HC1 := Lib.hid (cut_any k m u g s l up (.slice pv N pcv) P (max (A : Int) (B : Int)) w3 H3.out Hc.out HK0.out hM0 (by omega))
  unfold CutRes at HC1
  rw [HKb.out] at HC1
  clear hA hB q1 n1 b1
  go_wp2_with fail
  refine HC1.out.mono ?_
  rintro e w4 ⟨xq, xc, g1, rfl, hx4, hg4, hb4⟩
  have hbA : Below w4.heap.size w4 (w4.alloc (.cells #[.int .i64 k, .int .i64 m, .int .i64 u, .int .i64 g, .int .i64 (max (A : Int) (B : Int)), .int .i64 l, .int .i64 up, (.slice xq Kb xc)] 24)) := (Below.refl _ _).alloc (Nat.le_refl _) _
  have HB4 : Hid (Below w.heap.size w (w4.alloc (.cells #[.int .i64 k, .int .i64 m, .int .i64 u, .int .i64 g, .int .i64 (max (A : Int) (B : Int)), .int .i64 l, .int .i64 up, (.slice xq Kb xc)] 24))) := Below.step (Below.step HB3.out hb4) hbA
  have Q4 : Hid ((w4.alloc (.cells #[.int .i64 k, .int .i64 m, .int .i64 u, .int .i64 g, .int .i64 (max (A : Int) (B : Int)), .int .i64 l, .int .i64 up, (.slice xq Kb xc)] 24)).heap[w.heap.size]? = some (.cells #[.int .i64 k, .int .i64 m, .int .i64 u, .int .i64 g, .int .i64 s, .int .i64 l, .int .i64 up, (.slice pv N pcv)] 24 (0, 0))) := heap_below hbA (heap_below hb4 Q3.out)
  have HX4 := Lib.hid (own_ints_atN (ownsRow_keep hx4 hbA) (resP_len _ _))
  have HG4 := Lib.hid (ownsRow_keep hg4 hbA)
  have HC2 := Lib.hid (cut_any k m u g (max (A : Int) (B : Int)) l up (.slice xq Kb xc) (resP P Kb) (min (A : Int) (B : Int)) (w4.alloc (.cells #[.int .i64 k, .int .i64 m, .int .i64 u, .int .i64 g, .int .i64 (max (A : Int) (B : Int)), .int .i64 l, .int .i64 up, (.slice xq Kb xc)] 24)) HX4.out HRX.out HK0.out hm0 (by omega))
  unfold CutRes at HC2
  rw [HKs.out] at HC2
  clear hx4 hg4 hb4 hbA x0 x1 x2 x3 x4 x5 x6 x7
  go_wp2_with fail
  refine HC2.out.mono ?_
  rintro e w5 ⟨yq, yc, g2, rfl, hy5, hg5, hb5⟩
  have hbA : Below w5.heap.size w5 (w5.alloc (.cells #[.int .i64 k, .int .i64 m, .int .i64 u, .int .i64 g, .int .i64 (min (A : Int) (B : Int)), .int .i64 l, .int .i64 up, (.slice yq Ks yc)] 24)) := (Below.refl _ _).alloc (Nat.le_refl _) _
  have HB5 : Hid (Below w.heap.size w (w5.alloc (.cells #[.int .i64 k, .int .i64 m, .int .i64 u, .int .i64 g, .int .i64 (min (A : Int) (B : Int)), .int .i64 l, .int .i64 up, (.slice yq Ks yc)] 24))) := Below.step (Below.step HB4.out hb5) hbA
  have Q5 : Hid ((w5.alloc (.cells #[.int .i64 k, .int .i64 m, .int .i64 u, .int .i64 g, .int .i64 (min (A : Int) (B : Int)), .int .i64 l, .int .i64 up, (.slice yq Ks yc)] 24)).heap[w.heap.size]? = some (.cells #[.int .i64 k, .int .i64 m, .int .i64 u, .int .i64 g, .int .i64 s, .int .i64 l, .int .i64 up, (.slice pv N pcv)] 24 (0, 0))) := heap_below hbA (heap_below hb5 Q4.out)
  have QY5 : Hid ((w5.alloc (.cells #[.int .i64 k, .int .i64 m, .int .i64 u, .int .i64 g, .int .i64 (min (A : Int) (B : Int)), .int .i64 l, .int .i64 up, (.slice yq Ks yc)] 24)).heap[w5.heap.size]? = some (.cells #[.int .i64 k, .int .i64 m, .int .i64 u, .int .i64 g, .int .i64 (min (A : Int) (B : Int)), .int .i64 l, .int .i64 up, (.slice yq Ks yc)] 24 (0, 0))) := heap_alloc_new _ _
  have HY5 := Lib.hid (own_ints_atN (ownsRow_keep hy5 hbA) (resP_len _ _))
  have HGA5 := Lib.hid (ownsRow_keep (ownsRow_keep HG4.out hb5) hbA)
  have HGB5 := Lib.hid (ownsRow_keep hg5 hbA)
  have HC3 := Lib.hid (cut_any k m u g s l up (.slice pv N pcv) P (min (A : Int) (B : Int)) (w5.alloc (.cells #[.int .i64 k, .int .i64 m, .int .i64 u, .int .i64 g, .int .i64 (min (A : Int) (B : Int)), .int .i64 l, .int .i64 up, (.slice yq Ks yc)] 24)) (RowAt.below H.out HB5.out) Hc.out HK0.out hm0 (by omega))
  unfold CutRes at HC3
  rw [HKs.out] at HC3
  clear hy5 hg5 hb5 hbA
  obtain ⟨x0, x1, x2, x3, x4, x5, x6, x7⟩ := node_cells Q5.out
  go_wp2_with fail
  refine HC3.out.mono ?_
  rintro e w6 ⟨zq, zc, g3, rfl, hz6, hg6, hb6⟩
  have hbA : Below w6.heap.size w6 (w6.alloc (.cells #[.int .i64 k, .int .i64 m, .int .i64 u, .int .i64 g, .int .i64 (min (A : Int) (B : Int)), .int .i64 l, .int .i64 up, (.slice zq Ks zc)] 24)) := (Below.refl _ _).alloc (Nat.le_refl _) _
  have HB6 : Hid (Below w.heap.size w (w6.alloc (.cells #[.int .i64 k, .int .i64 m, .int .i64 u, .int .i64 g, .int .i64 (min (A : Int) (B : Int)), .int .i64 l, .int .i64 up, (.slice zq Ks zc)] 24))) := Below.step (Below.step HB5.out hb6) hbA
  have QY6 : Hid ((w6.alloc (.cells #[.int .i64 k, .int .i64 m, .int .i64 u, .int .i64 g, .int .i64 (min (A : Int) (B : Int)), .int .i64 l, .int .i64 up, (.slice zq Ks zc)] 24)).heap[w5.heap.size]? = some (.cells #[.int .i64 k, .int .i64 m, .int .i64 u, .int .i64 g, .int .i64 (min (A : Int) (B : Int)), .int .i64 l, .int .i64 up, (.slice yq Ks yc)] 24 (0, 0))) := heap_below hbA (heap_below hb6 QY5.out)
  have QZ6 : Hid ((w6.alloc (.cells #[.int .i64 k, .int .i64 m, .int .i64 u, .int .i64 g, .int .i64 (min (A : Int) (B : Int)), .int .i64 l, .int .i64 up, (.slice zq Ks zc)] 24)).heap[w6.heap.size]? = some (.cells #[.int .i64 k, .int .i64 m, .int .i64 u, .int .i64 g, .int .i64 (min (A : Int) (B : Int)), .int .i64 l, .int .i64 up, (.slice zq Ks zc)] 24 (0, 0))) := heap_alloc_new _ _
  have HY6 : Hid (IntsAt (w6.alloc (.cells #[.int .i64 k, .int .i64 m, .int .i64 u, .int .i64 g, .int .i64 (min (A : Int) (B : Int)), .int .i64 l, .int .i64 up, (.slice zq Ks zc)] 24)) (.slice yq Ks yc) (resP P Ks)) := by
    have := RowAt.below (RowAt.below HY5.out hb6) hbA
    rw [HTW.out.1] at this
    exact this
  have HZ6 := Lib.hid (own_ints_atN (ownsRow_keep hz6 hbA) (resP_len _ _))
  have HGA6 := Lib.hid (ownsRow_keep (ownsRow_keep HGA5.out hb6) hbA)
  have HGB6 := Lib.hid (ownsRow_keep (ownsRow_keep HGB5.out hb6) hbA)
  have HGC6 := Lib.hid (ownsRow_keep hg6 hbA)
  clear hz6 hg6 hb6 hbA x0 x1 x2 x3 x4 x5 x6 x7 HC1 HC2 HC3 Q4 Q5 QY5 HX4 HG4 HY5 HGA5 HGB5
  have hlA : (goneP P Kb).length ≤ 8 := by have := goneP_len P Kb; rw [HN.out] at this; omega
  have hlC : (goneP P Ks).length ≤ 8 := by have := goneP_len P Ks; rw [HN.out] at this; omega
  have hlB : (goneP (resP P Kb) Ks).length ≤ 8 := by have := goneP_len (resP P Kb) Ks; rw [resP_len] at this; have h2 := HKP.out; rw [HN.out] at h2; omega
  have HLA : Hid ((srtI (goneP P Kb)).length = (goneP P Kb).length) := (srtI_perm _).length_eq
  have HLB : Hid ((srtI (goneP (resP P Kb) Ks)).length = (goneP (resP P Kb) Ks).length) := (srtI_perm _).length_eq
  have HLC : Hid ((srtI (goneP P Ks)).length = (goneP P Ks).length) := (srtI_perm _).length_eq
  rw [← HLA.out] at HGA6
  rw [← HLB.out] at HGB6
  rw [← HLC.out] at HGC6
  rw [← HLA.out] at hlA
  rw [← HLB.out] at hlB
  rw [← HLC.out] at hlC
  generalize srtI (goneP P Kb) = GA at *
  generalize srtI (goneP (resP P Kb) Ks) = GB at *
  generalize srtI (goneP P Ks) = GC at *
  have HEQ : Hid (srtI (GA ++ GB) = GC) := HTW.out.2
  have HCL := Lib.hid (cloneInts_any g1 GA (w6.alloc (.cells #[.int .i64 k, .int .i64 m, .int .i64 u, .int .i64 g, .int .i64 (min (A : Int) (B : Int)), .int .i64 l, .int .i64 up, (.slice zq Ks zc)] 24)) (own_ints_at HGA6.out) (by omega))
  unfold IntsRes at HCL
  clear HTW HLA HLB HLC
  go_wp2_with fail
  generalize (w6.alloc (.cells #[.int .i64 k, .int .i64 m, .int .i64 u, .int .i64 g, .int .i64 (min (A : Int) (B : Int)), .int .i64 l, .int .i64 up, (.slice zq Ks zc)] 24)) = w7 at *
  refine HCL.out.mono ?_
  rintro e w8 ⟨v8, rfl, ho8, hb8, hz8⟩
  have HO8 := Lib.hid ho8
  have HB8 := Lib.hid hb8
  have HGB8 := Lib.hid (ownsRow_keep HGB6.out hb8)
  have hz78 := hz8
  clear ho8 hb8 hz8
  go_wp2_with (at_builtin; refine wpList_append_ints rfl _ _ rfl _ _ w7.heap.size _ GA GB rfl rfl HO8.out HGB8.out hz78 (by omega) ?_; intro v9 w9 hown hgrow)
  have HO9 := Lib.hid hown
  have HB9 : Hid (Below w7.heap.size w7 w9) := Below.grown HB8.out hgrow hz78 (fun q hq => (HO8.out.lt q hq).1)
  clear hown hgrow
  have HSO := Lib.hid (sort_own v9 (GA ++ GB) w7.heap.size w9 HO9.out (by rw [List.length_append]; omega))
  go_wp2_with fail
  refine HSO.out.mono ?_
  rintro e w10 ⟨rfl, ho10, hg10⟩
  have HB10 : Hid (Below w7.heap.size w7 w10) := Below.grown HB9.out hg10 HB9.out.size (fun q hq => (HO9.out.lt q hq).1)
  have HO10 : Hid (IntsAt w10 v9 GC) := by
    have hl : (GA ++ GB).length = GC.length := by rw [← HEQ.out]; exact (srtI_perm _).length_eq.symm
    rw [HEQ.out, hl] at ho10
    exact own_ints_at ho10
  have QY10 := Lib.hid (heap_below HB10.out QY6.out)
  have QZ10 := Lib.hid (heap_below HB10.out QZ6.out)
  have HAL := Lib.hid (alike_true k m u g (min (A : Int) (B : Int)) l up (.slice yq Ks yc) (.slice zq Ks zc) (resP P Ks) w10 (RowAt.below HY6.out HB10.out) (RowAt.below HZ6.out HB10.out) (by rw [resP_len]; have := HKP.out; rw [HN.out] at this; omega))
  obtain ⟨y0, y1, y2, y3, y4, y5, y6, y7⟩ := node_cells QY10.out
  obtain ⟨z0, z1, z2, z3, z4, z5, z6, z7⟩ := node_cells QZ10.out
  clear ho10 hg10
  go_wp2_with fail
  refine HAL.out.mono ?_
  rintro e w11 ⟨rfl, hb11⟩
  have HE := Lib.hid (equalInts_true v9 g3 GC w11 (RowAt.below HO10.out hb11) (RowAt.below (RowAt.below (own_ints_at HGC6.out) HB10.out) hb11) (by omega))
  have HB11 : Hid (Below w.heap.size w w11) := Below.step (Below.step HB6.out HB10.out) hb11
  clear hb11 y0 y1 y2 y3 y4 y5 y6 y7 z0 z1 z2 z3 z4 z5 z6 z7
  go_wp2_with fail
  refine HE.out.mono ?_
  rintro e w12 ⟨rfl, hb12⟩
  have hB12 : Below w.heap.size w w12 := Below.step HB11.out hb12
  clear hb12
  go_wp2
  go_ret
  exact ⟨rfl, hB12⟩

-- CLOSING

set_option maxRecDepth 100000 in
theorem orphanTwice_lifted (os : Os) (started : os.Started) (H : Type) (enc' : TypeId × Value → H) :
    ReturnsInHanded {} Try.checked os 3 .any (Rows.orphanTwiceSpec.pre6 enc' Try.prog Try.f3 Rows.orphanTwiceRow.domain false) (Rows.orphanTwiceSpec.post enc' Try.prog Try.f3 false true false false) := by
  refine returnsInHanded_of_change (C := Try.checked) Try.own started (by kernel_rfl) Try.func3
    (ChangeSpec.witness6 (enc := enc') (C := Try.checked) false ⟨#[], #[.agg #[.int .i64 0, .int .i64 0, .int .i64 0, .int .i64 0, .int .i64 0, .int .i64 0, .int .i64 0, .slice none 0 0], .int .i64 0, .int .i64 0], []⟩ 8 (by kernel_rfl) (by kernel_rfl) (by kernel_rfl) (by kernel_rfl)) ?_
  intro W base args ds gs before hval0 hW hcnd _
  have hval : ∀ (j : Nat) t v, Try.f3.params[j]? = some t → args[j]? = some v → Value.okWide Try.prog W .any base t v := hval0
  have hW' := hW
  obtain ⟨p, q, hA0, hV, rfl, hfz, hnd⟩ := hW
  have hA : DataW.TrodAll enc' Try.prog W 0 (fun _ => true) true Try.f3.params.toList args.toList ds p := hA0
  rw [Try.params3] at hA hval
  obtain ⟨v0, v1, v2, d0, d1, d2, p0, p1, p2, rfl, rfl, rfl, h0, h1, h2⟩ := trodAll_three hA
  obtain ⟨rfl, rfl⟩ := trodVars_none hV
  obtain ⟨nk, nm, nu, ng, ns, nl, nup, nv, Q, rfl, hI, hM, hs⟩ := open_nodeAt rfl Try.underlying24 (by kernel_rfl) (by kernel_rfl) rfl rfl rfl rfl rfl rfl rfl rfl (hval 0 24 v0 rfl rfl) h0
  obtain ⟨a, rfl, rfl, rfl, wa⟩ := open_int Try.underlying3 (hval 1 3 v1 rfl rfl) h1
  obtain ⟨b, rfl, rfl, rfl, wb⟩ := open_int Try.underlying3 (hval 2 3 v2 rfl rfl) h2
  clear hA0 hval0
  refine (orphanTwice_raw nk nm nu ng ns nl nup nv Q hM a b W hI).mono fun e W' ⟨he, hw⟩ => ?_
  subst he
  exact ⟨_, rfl, law_post 4 Try.laidOut (by kernel_rfl) rfl rfl Try.underlying4 hW' rfl hw⟩

theorem orphanTwice_holds : Rows.OrphanTwiceSaid :=
  OpenClaim.holds_of_wide 3 Try.f3 rfl rfl rfl rfl rfl rfl rfl ⟨rfl, rfl, rfl, rfl, rfl⟩ rfl rfl rfl rfl rfl (by kernel_rfl) Try.func3 (by kernel_rfl)
    (of_decide_eq_true (by kernel_rfl)) (by unfold Func.isWrapper; first | (rw [if_pos (by decide +kernel)]; kernel_rfl) | (rw [if_neg (by decide +kernel)]; exact ⟨rfl, rfl⟩))
    (fun os started H enc _ => orphanTwice_lifted os started H enc)

end Go.Proofs.Ytablomjaaifgfaa
