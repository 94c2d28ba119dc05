/- lifted: a fact: an order. -/
import Derived.Test.YthkcnihmfeilgaaLiftOps
import Derived.Test.YthkcnihmfeilgaaDkWritten
namespace Go.Proofs.Ythkcnihmfeilgaa
open Go.RowKit

theorem lifted_order (a b c : List Int) : orderF [(5, a, false), (2, b, false), (5, c, false)] 3 = [(5, c, false), (2, b, false)] := by
  have e : ([(5, c), (2, b)] : List Wr) = partF [(5, a), (2, b), (5, c)] 3 := by
    refine part_uniq (by omega) ?_ fun x => ?_
    · simp [farN]
    · obtain ⟨n, D⟩ := x
      constructor
      · intro h
        simp at h
        rcases h with ⟨rfl, rfl⟩ | ⟨rfl, rfl⟩
        · exact ⟨by simp, rfl⟩
        · exact ⟨by simp, rfl⟩
      · rintro ⟨_, h⟩
        have h1 : (if 5 = n then some c else if 2 = n then some b else if 5 = n then some a else none) = some D := h
        by_cases e5 : 5 = n
        · rw [if_pos e5] at h1
          injection h1 with h1
          rw [← e5, h1]; simp
        · rw [if_neg e5] at h1
          by_cases e2 : 2 = n
          · rw [if_pos e2] at h1
            injection h1 with h1
            rw [← e2, h1]; simp
          · rw [if_neg e2, if_neg e5] at h1
            cases h1
  show emit (partF [(5, a), (2, b), (5, c)] 3) = _
  rw [← e]
  rfl
theorem lifted_way (a b c : List Int) : wayF 3 [(5, a, false), (2, b, false), (5, c, false)] = 258 := by simp [wayF, farN]
def sA : ByteArray := { data := #[97] }
def sB : ByteArray := { data := #[98] }
def sC : ByteArray := { data := #[99] }
set_option maxRecDepth 100000 in
theorem secC_one : (secS sC).take 1 = [99] := by decide

set_option maxRecDepth 100000 in
set_option maxHeartbeats 4000000 in
theorem lifted_true (w : World) : Calls Try.prog 20 #[] w fun e w' => e = .returned (.bool true) ∧ Below w.heap.size w w' := by
  go_enter Try.func20, Try.ntmps20
  go_wp2_with fail
  refine (sector_any sA _).mono ?_
  rintro e w1 ⟨v1, rfl, hv1⟩
  have t1 := Lib.hid hv1.at
  have d1 := Lib.hid hv1.below
  obtain ⟨g1, c1, _, e1, _⟩ := hv1
  rw [secS_len] at e1
  subst e1
  go_wp2_with fail
  refine (sector_any sB _).mono ?_
  rintro e w2 ⟨v2, rfl, hv2⟩
  have t2 := Lib.hid hv2.at
  have d2 := Lib.hid hv2.below
  obtain ⟨g2, c2, _, e2, _⟩ := hv2
  rw [secS_len] at e2
  subst e2
  go_wp2_with fail
  refine (sector_any sC _).mono ?_
  rintro e w3 ⟨v3, rfl, hv3⟩
  have t3 := Lib.hid hv3.at
  have d3 := Lib.hid hv3.below
  obtain ⟨g3, c3, _, e3, _⟩ := hv3
  rw [secS_len] at e3
  subst e3
  have hb3 : Below w.heap.size w w3 := Below.step (Below.step d1.out d2.out) d3.out
  have h1 := RowAt.below (RowAt.below t1.out d2.out) d3.out
  have h2 := RowAt.below t2.out d3.out
  have h3 := t3.out
  obtain ⟨E, HE⟩ : ∃ E : List Rq, Hid (E = [⟨5, .slice (some ⟨g1, 0, none⟩) 64 c1, secS sA, false⟩, ⟨2, .slice (some ⟨g2, 0, none⟩) 64 c2, secS sB, false⟩, ⟨5, .slice (some ⟨g3, 0, none⟩) 64 c3, secS sC, false⟩]) := ⟨_, rfl⟩
  have hbA : Below w3.heap.size w3 (w3.alloc (.cells #[.int .i64 5, .slice (some ⟨g1, 0, none⟩) 64 c1, .bool false, .int .i64 2, .slice (some ⟨g2, 0, none⟩) 64 c2, .bool false, .int .i64 5, .slice (some ⟨g3, 0, none⟩) 64 c3, .bool false] 50)) := (Below.refl _ _).alloc (Nat.le_refl _) _
  have HBA : Hid (Below w.heap.size w (w3.alloc (.cells #[.int .i64 5, .slice (some ⟨g1, 0, none⟩) 64 c1, .bool false, .int .i64 2, .slice (some ⟨g2, 0, none⟩) 64 c2, .bool false, .int .i64 5, .slice (some ⟨g3, 0, none⟩) 64 c3, .bool false] 50))) := Below.step hb3 hbA
  have HROW : Hid (RqRow (w3.alloc (.cells #[.int .i64 5, .slice (some ⟨g1, 0, none⟩) 64 c1, .bool false, .int .i64 2, .slice (some ⟨g2, 0, none⟩) 64 c2, .bool false, .int .i64 5, .slice (some ⟨g3, 0, none⟩) 64 c3, .bool false] 50)) (.slice (some ⟨w3.heap.size, 0, none⟩) 3 3) E) := by
    show RqRow _ _ _
    rw [HE.out]
    exact ⟨_, 3, rfl, by simp, by unfold maxLen; omega, fun _ => ⟨w3.heap.size, 0, rfl, fun j x hx => by
      rw [Nat.zero_add, cell_of_row _ _ _ _ _ _ (heap_alloc_new w3 _)]
      simpa [rcells, rq3] using hx⟩⟩
  have HOK : Hid (∀ x ∈ E, RqOk (w3.alloc (.cells #[.int .i64 5, .slice (some ⟨g1, 0, none⟩) 64 c1, .bool false, .int .i64 2, .slice (some ⟨g2, 0, none⟩) 64 c2, .bool false, .int .i64 5, .slice (some ⟨g3, 0, none⟩) 64 c3, .bool false] 50)) x) := by
    intro x hx
    rw [HE.out] at hx
    simp at hx
    rcases hx with rfl | rfl | rfl
    · exact Or.inr ⟨rfl, by simp, RowAt.below h1 hbA, secS_len _⟩
    · exact Or.inr ⟨rfl, by simp, RowAt.below h2 hbA, secS_len _⟩
    · exact Or.inr ⟨rfl, by simp, RowAt.below h3 hbA, secS_len _⟩
  have HL : Hid (E.map rab = [(5, secS sA, false), (2, secS sB, false), (5, secS sC, false)]) := by show _ = _; rw [HE.out]; rfl
  have hl3 : E.length ≤ 100 := by rw [HE.out]; simp
  clear h1 h2 h3 hb3 hbA
  have HORD := Lib.hid (order_any _ E 3 (by omega) _ HROW.out HOK.out hl3)
  unfold OrderRes at HORD
  rw [HL.out, lifted_order] at HORD
  go_wp2_with fail
  refine HORD.out.mono ?_
  rintro e w5 ⟨v5, rfl, ho5, hb5⟩
  have HWAY := Lib.hid (way_any _ E 3 (by omega) _ (HROW.out.below hb5) (fun x hx => (HOK.out x hx).below hb5) hl3)
  rw [HL.out, lifted_way] at HWAY
  have HB5 : Hid (Below w.heap.size w w5) := Below.step HBA.out hb5
  have HO5 := Lib.hid ho5
  clear ho5 hb5
  go_wp2_with fail
  refine HWAY.out.mono ?_
  rintro e w6 ⟨rfl, hb6⟩
  have HO6 := HO5.out.below hb6
  have HB6 : Hid (Below w.heap.size w w6) := Below.step HB5.out hb6
  obtain ⟨E6, hE6, ho6, hn6⟩ := HO6
  obtain ⟨x, y, rfl⟩ : ∃ x y, E6 = [x, y] := by
    have hl := rqs_len hE6
    match E6, hl with
    | [x, y], _ => exact ⟨x, y, rfl⟩
  have hx : rab x = (5, secS sC, false) := by injection hE6
  have hy : rab y = (2, secS sB, false) := by injection hE6 with _ h; injection h
  have hxn : x.n = 5 := congrArg (fun r : Rb => r.1) hx
  have hxD : x.D = secS sC := congrArg (fun r : Rb => r.2.1) hx
  have hxb : x.b = false := congrArg (fun r : Rb => r.2.2) hx
  have hyn : y.n = 2 := congrArg (fun r : Rb => r.1) hy
  obtain ⟨_, h4⟩ : True ∧ _ := ⟨trivial, hn6 x (by simp)⟩
  rcases h4 with ⟨h4, _⟩ | ⟨_, _, _, gx, cx, cur, hxv, hcx, hgx, htx⟩
  · rw [hxb] at h4; cases h4
  obtain ⟨q, cp, hv5, hq⟩ := owns_slice ho6
  obtain ⟨g6, rfl, _, hc6⟩ := hq (by simp)
  have k0 := hc6 0 _ (rcells_get [x, y] 0 (by simp)).1
  have k1 := hc6 1 _ (rcells_get [x, y] 0 (by simp)).2.1
  have k3 := hc6 3 _ (rcells_get [x, y] 1 (by simp)).1
  have e0 : ([x, y] : List Rq)[0].n = 5 := hxn
  have e1 : ([x, y] : List Rq)[0].v = .slice (some ⟨gx, 0, none⟩) 64 cx := hxv
  have e3 : ([x, y] : List Rq)[1].n = 2 := hyn
  rw [e0] at k0
  rw [e1] at k1
  rw [e3] at k3
  have hl2 : ([x, y] : List Rq).length = 2 := rfl
  rw [hl2] at hv5
  obtain ⟨_, hcx⟩ := hcx
  have hcc : (convert 26 9 (.slice (some ⟨gx, 0, none⟩) 1 cx)).run Try.prog w6 = .ok (.string { data := #[99] }) w6 := by
    have hb : BytesAt w6 (.slice (some ⟨gx, 0, none⟩) 64 cx) (secS sC) := by rw [← hxD]; exact bytes_of_row (by rw [hxD]; exact secS_len _) hgx htx
    have h5 := bytes_take (m := 1) (cap' := cx) hb (by omega) (by omega)
    rw [secC_one] at h5
    exact conv_bytes h5 (by simp)
  subst hv5
  clear hE6 ho6 hn6 hx hy hxn hxD hxb hyn hxv hgx htx hq hc6 e0 e1 e3 hl2
  go_wp2
  go_ret
  exact ⟨rfl, HB6.out⟩

end Go.Proofs.Ythkcnihmfeilgaa
