/- Rows of quotas: Right, May. -/
import Derived.Test.YtneknlbmiofmlaaQuota
namespace Go.Proofs.Ytneknlbmiofmlaa
open Go.RowKit

/-- Is a row right where it stands? -/
def okAt (l : List (Int × Int)) (i : Nat) : Bool := decide (0 ≤ (l.getD i (0, 0)).1) && decide ((l.getD i (0, 0)).1 ≤ 255) && decide (0 ≤ (l.getD i (0, 0)).2) && decide ((l.getD i (0, 0)).2 ≤ 256) && (decide (i = 0) || decide ((l.getD (i - 1) (0, 0)).1 < (l.getD i (0, 0)).1))
def okQ (l : List (Int × Int)) : Bool := (List.range l.length).all (okAt l)
def rightQ (l : List (Int × Int)) : Int := if 20 < l.length then 2 else if okQ l = true then 0 else 3
theorem okQ_of {l : List (Int × Int)} (h : ∀ i, i < l.length → okAt l i = true) : okQ l = true := by
  unfold okQ
  rw [List.all_eq_true]
  exact fun i hi => h i (List.mem_range.1 hi)
theorem okQ_at {l : List (Int × Int)} (h : okQ l = true) (i : Nat) (hi : i < l.length) : okAt l i = true := by
  unfold okQ at h
  rw [List.all_eq_true] at h
  exact h i (List.mem_range.2 hi)
theorem okAt_iff (l : List (Int × Int)) (i : Nat) : okAt l i = true ↔ (0 ≤ (l.getD i (0, 0)).1 ∧ (l.getD i (0, 0)).1 ≤ 255 ∧ 0 ≤ (l.getD i (0, 0)).2 ∧ (l.getD i (0, 0)).2 ≤ 256 ∧ (i = 0 ∨ (l.getD (i - 1) (0, 0)).1 < (l.getD i (0, 0)).1)) := by
  unfold okAt
  simp only [Bool.and_eq_true, Bool.or_eq_true, decide_eq_true_eq]
  constructor
  · rintro ⟨⟨⟨⟨a, b⟩, c⟩, d⟩, e⟩; exact ⟨a, b, c, d, e⟩
  · rintro ⟨a, b, c, d, e⟩; exact ⟨⟨⟨⟨a, b⟩, c⟩, d⟩, e⟩
theorem getD_at (l : List (Int × Int)) (i : Nat) (h : i < l.length) : l.getD i (0, 0) = l[i] := by simp [h]

set_option maxRecDepth 100000 in
set_option maxHeartbeats 4000000 in
theorem rightQ_any (v : Value) (l : List (Int × Int)) (w : World) (h : RowAt w v 2 l.length (pairs l)) (hl : l.length ≤ 1000000) :
    Calls Try.prog 32 #[v] w fun e w' => e = .returned (.int .i64 (rightQ l)) ∧ Below w.heap.size w w' := by
  obtain ⟨a, c, hv, HC⟩ := rows_cells h
  obtain ⟨n, HN⟩ : ∃ n, Hid (n = l.length) := ⟨_, rfl⟩
  rw [← HN.out] at hv hl
  subst hv
  have HCH := Lib.hid HC
  clear HC h
  by_cases h20 : 20 < n
  · have HF : Hid (rightQ l = 2) := by show _ = _; unfold rightQ; rw [← HN.out, if_pos h20]
    go_enter Try.func32, Try.ntmps32
    go_wp2
    go_ret
    rw [HF.out]
    exact ⟨rfl, Below.refl _ _⟩
  · go_enter Try.func32, Try.ntmps32
    go_wp2
    go_loopw [10] (fun i wr => ∃ k : Nat, k ≤ n ∧ i = .int .i64 k ∧ Hid (∀ j, j < k → okAt l j = true) ∧ Below w.heap.size w wr) (fun i _ => n - (intOf i).toNat)
    case atStart => exact ⟨0, by omega, rfl, fun j hj => by omega, Below.refl _ _⟩
    case round =>
      obtain ⟨k, hk, rfl, HO, HB⟩ := hrel
      by_cases hlt : k < n
      · have hkl : k < l.length := by rw [← HN.out]; exact hlt
        obtain ⟨g, o, rfl, hg, hc⟩ := HCH.out (by omega)
        obtain ⟨x, Hx⟩ : ∃ x, Hid (x = l[k].1) := ⟨l[k].1, rfl⟩
        obtain ⟨y, Hy⟩ : ∃ y, Hid (y = l[k].2) := ⟨l[k].2, rfl⟩
        have c0 : wr.cell? ⟨g, o + k * 2, none⟩ = some (.int .i64 x) := by rw [HB.cell (p := ⟨g, o + k * 2, none⟩) hg, (hc k hkl).1, Hx.out]
        have c1 : wr.cell? ⟨g, o + k * 2 + 1, none⟩ = some (.int .i64 y) := by rw [HB.cell (p := ⟨g, o + k * 2 + 1, none⟩) hg, (hc k hkl).2, Hy.out]
        have HG : Hid (l.getD k (0, 0) = (x, y)) := by show _ = _; rw [getD_at l k hkl, Hx.out, Hy.out]
        have HBAD : Hid (okAt l k = false → rightQ l = 3) := fun hb => by
          unfold rightQ
          rw [← HN.out, if_neg h20, if_neg]
          intro ho
          rw [okQ_at ho k hkl] at hb
          cases hb
        have hgw : g < wr.heap.size := Nat.lt_of_lt_of_le hg HB.size
        have HCC := Lib.hid hc
        clear hc
        by_cases a0 : x < 0
        · have HF : Hid (rightQ l = 3) := HBAD.out (by
            cases hb : okAt l k with
            | false => rfl
            | true => exfalso; have := (okAt_iff l k).1 hb; rw [HG.out] at this; simp only at this; omega)
          go_wp2
          go_quiet (fail)
          go_wp2
          go_ret
          rw [HF.out]
          exact ⟨rfl, below_drewN (HB.alloc HB.size _) _⟩
        have na0 : 0 ≤ x := by omega
        have da0 : decide (x < 0) = false := decide_eq_false a0
        have Ha0 := Lib.hid a0
        clear a0
        by_cases a1 : 255 < x
        · have HF : Hid (rightQ l = 3) := HBAD.out (by
            cases hb : okAt l k with
            | false => rfl
            | true => exfalso; have := (okAt_iff l k).1 hb; rw [HG.out] at this; simp only at this; omega)
          go_wp2
          go_quiet (fail)
          go_wp2
          go_ret
          rw [HF.out]
          exact ⟨rfl, below_drewN (HB.alloc HB.size _) _⟩
        have na1 : x ≤ 255 := by omega
        have da1 : decide (255 < x) = false := decide_eq_false a1
        have Ha1 := Lib.hid a1
        clear a1
        by_cases a2 : y < 0
        · have HF : Hid (rightQ l = 3) := HBAD.out (by
            cases hb : okAt l k with
            | false => rfl
            | true => exfalso; have := (okAt_iff l k).1 hb; rw [HG.out] at this; simp only at this; omega)
          go_wp2
          go_quiet (fail)
          go_wp2
          go_ret
          rw [HF.out]
          exact ⟨rfl, below_drewN (HB.alloc HB.size _) _⟩
        have na2 : 0 ≤ y := by omega
        have da2 : decide (y < 0) = false := decide_eq_false a2
        have Ha2 := Lib.hid a2
        clear a2
        by_cases a3 : 256 < y
        · have HF : Hid (rightQ l = 3) := HBAD.out (by
            cases hb : okAt l k with
            | false => rfl
            | true => exfalso; have := (okAt_iff l k).1 hb; rw [HG.out] at this; simp only at this; omega)
          go_wp2
          go_quiet (fail)
          go_wp2
          go_ret
          rw [HF.out]
          exact ⟨rfl, below_drewN (HB.alloc HB.size _) _⟩
        have na3 : y ≤ 256 := by omega
        have da3 : decide (256 < y) = false := decide_eq_false a3
        have Ha3 := Lib.hid a3
        clear a3
        by_cases hk0 : k = 0
        · subst hk0
          have c00 : wr.cell? ⟨g, o, none⟩ = some (.int .i64 x) := by simpa using c0
          have c10 : wr.cell? ⟨g, o + 1, none⟩ = some (.int .i64 y) := by simpa using c1
          have HO2 : Hid (∀ j, j < 0 + 1 → okAt l j = true) := fun j hj => by
            obtain rfl : j = 0 := by omega
            rw [okAt_iff, HG.out]
            exact ⟨na0, na1, na2, na3, Or.inl rfl⟩
          go_wp2
          go_quiet (fail)
          go_wp2
          go_roundw
          case rel => exact ⟨0 + 1, by omega, by go_num, HO2, below_drewN (HB.alloc HB.size _) _⟩
          case measure => simp [intOf]; omega
        · obtain ⟨j, rfl⟩ : ∃ j, k = j + 1 := ⟨k - 1, by omega⟩
          obtain ⟨z, Hz⟩ : ∃ z, Hid (z = (l[j]'(by omega)).1) := ⟨(l[j]'(by omega)).1, rfl⟩
          have cz : wr.cell? ⟨g, o + j * 2, none⟩ = some (.int .i64 z) := by rw [HB.cell (p := ⟨g, o + j * 2, none⟩) hg, (HCC.out j (by omega)).1, Hz.out]
          have HGZ : Hid ((l.getD j (0, 0)).1 = z) := by show _ = _; rw [getD_at l j (by omega), Hz.out]
          have hj1 : IntKind.i64.wrap (((j : Int) + 1) - 1) = (j : Int) := by rw [IntWalk.i64_in _ (by omega)]; omega
          have hj0 : (0 : Int) < (j : Int) + 1 := by omega
          have dj0 : decide ((0 : Int) < (j : Int) + 1) = true := decide_eq_true hj0
          have hj2 : (j : Int) + 1 - 1 = (j : Int) := by omega
          have hjn : (j : Int) < (n : Int) := by omega
          clear hk0
          by_cases hzx : z < x
          · have dzx : decide (x ≤ z) = false := decide_eq_false (by omega)
            have HO2 : Hid (∀ i, i < j + 1 + 1 → okAt l i = true) := fun i hi => by
              by_cases e : i = j + 1
              · subst e
                rw [okAt_iff, HG.out]
                refine ⟨na0, na1, na2, na3, Or.inr ?_⟩
                rw [Nat.add_sub_cancel, HGZ.out]
                exact hzx
              · exact HO.out i (by omega)
            go_wp2
            go_quiet (fail)
            go_wp2
            go_roundw
            case rel => exact ⟨j + 1 + 1, by omega, by go_num, HO2, below_drewN (HB.alloc HB.size _) _⟩
            case measure => simp [intOf]; omega
          · have hxz : x ≤ z := by omega
            have dzx : decide (x ≤ z) = true := decide_eq_true hxz
            have HF : Hid (rightQ l = 3) := HBAD.out (by
              cases hb : okAt l (j + 1) with
              | false => rfl
              | true =>
                exfalso
                have := (okAt_iff l (j + 1)).1 hb
                rw [HG.out, Nat.add_sub_cancel, HGZ.out] at this
                simp only at this
                omega)
            have HZX := Lib.hid hzx
            clear hzx
            go_wp2
            go_quiet (fail)
            go_wp2
            go_ret
            rw [HF.out]
            exact ⟨rfl, below_drewN (HB.alloc HB.size _) _⟩
      · have HF : Hid (rightQ l = 0) := by
          show _ = _
          unfold rightQ
          rw [← HN.out, if_neg h20, if_pos (okQ_of fun i hi => HO.out i (by rw [← HN.out] at hi; omega))]
        go_wp2
        go_ret
        rw [HF.out]
        exact ⟨rfl, HB⟩

/-- May some more be had? (Of numbers that are right.) -/
def mayQ (l : List (Int × Int)) (u has more : Int) : Int := if 0 < more ∧ ofQ l u ≠ -1 ∧ ofQ l u < has + more then 16 else 0
set_option maxHeartbeats 2000000 in
theorem may_any (v : Value) (l : List (Int × Int)) (u has more : Int) (w : World) (h : RowAt w v 2 l.length (pairs l)) (hl : l.length ≤ 1000000) (h0 : 0 ≤ has) (h1 : has ≤ 256) (m0 : -256 ≤ more) (m1 : more ≤ 256) :
    Calls Try.prog 36 #[v, .int .i64 u, .int .i64 has, .int .i64 more] w fun e w' => e = .returned (.int .i64 (mayQ l u has more)) ∧ Below w.heap.size w w' := by
  obtain ⟨q, Hq⟩ : ∃ q, Hid (q = ofQ l u) := ⟨_, rfl⟩
  have HOF : Hid (∀ W : World, Below w.heap.size w W → Calls Try.prog 34 #[v, .int .i64 u] W fun e w' => e = .returned (.int .i64 q) ∧ Below W.heap.size W w') := fun W hW => by
    rw [Hq.out]; exact of_any v l u W (RowAt.below h hW) hl
  clear h
  by_cases hm : 0 < more
  · by_cases hq : q = -1
    · have HF : Hid (mayQ l u has more = 0) := by show _ = _; unfold mayQ; rw [if_neg]; rintro ⟨_, b, _⟩; exact b (by rw [← Hq.out]; exact hq)
      subst hq
      go_enter Try.func36, Try.ntmps36
      go_wp2_with fail
      refine (HOF.out _ (Below.refl _ _)).mono ?_
      rintro e w1 ⟨rfl, hb1⟩
      go_wp2
      go_ret
      rw [HF.out]
      exact ⟨rfl, hb1⟩
    · have b1 : (q == -1) = false := by simpa using hq
      have b2 : (q != -1) = true := by simpa using hq
      by_cases hlt : q < has + more
      · have HF : Hid (mayQ l u has more = 16) := by show _ = _; unfold mayQ; rw [← Hq.out, if_pos ⟨hm, hq, hlt⟩]
        have HQ := Lib.hid hq
        clear hq
        go_enter Try.func36, Try.ntmps36
        go_wp2_with fail
        refine (HOF.out _ (Below.refl _ _)).mono ?_
        rintro e w1 ⟨rfl, hb1⟩
        go_wp2
        go_ret
        rw [HF.out]
        exact ⟨rfl, hb1⟩
      · have HF : Hid (mayQ l u has more = 0) := by show _ = _; unfold mayQ; rw [← Hq.out, if_neg]; rintro ⟨_, _, b⟩; exact hlt b
        have HQ := Lib.hid hq
        have hle : has + more ≤ q := by omega
        clear hq hlt
        go_enter Try.func36, Try.ntmps36
        go_wp2_with fail
        refine (HOF.out _ (Below.refl _ _)).mono ?_
        rintro e w1 ⟨rfl, hb1⟩
        go_wp2
        go_ret
        rw [HF.out]
        exact ⟨rfl, hb1⟩
  · have HF : Hid (mayQ l u has more = 0) := by show _ = _; unfold mayQ; rw [if_neg]; rintro ⟨a, _⟩; exact hm a
    have hle : more ≤ 0 := by omega
    clear hm
    go_enter Try.func36, Try.ntmps36
    go_wp2_with fail
    refine (HOF.out _ (Below.refl _ _)).mono ?_
    rintro e w1 ⟨rfl, hb1⟩
    go_wp2
    go_ret
    rw [HF.out]
    exact ⟨rfl, hb1⟩

end Go.Proofs.Ytneknlbmiofmlaa
