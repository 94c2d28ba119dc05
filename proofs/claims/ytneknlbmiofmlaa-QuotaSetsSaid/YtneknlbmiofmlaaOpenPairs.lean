/- A slice of structs of two ints that came in as an argument. -/
import Derived.Test.YtneknlbmiofmlaaOpenInts
import Derived.Deep.SlicePairs
namespace Go.Proofs.Ytneknlbmiofmlaa
open Go.ChangeShapes Go.WideShapes Go.ChangeAt Go.RowKit Go.Deep

theorem i64_of_wf {n : Int} (h : (Lit.int .i64 n).wf = true) : -9223372036854775808 ≤ n ∧ n ≤ 9223372036854775807 := by
  simp only [Lit.wf, IntKind.min, IntKind.max, IntKind.signed, IntKind.bits, Bool.and_eq_true, decide_eq_true_eq] at h
  simp at h
  omega

theorem pairs_map (N : Nat) (f : Nat → Int × Int) : ∀ k, k < N → ((List.range N).map f)[k]? = some (f k) := fun k hk => by
  rw [List.getElem?_map, List.getElem?_range hk]; rfl

theorem pairs_split (l : List (Int × Int)) (j : Nat) (x : Value) (h : (pairs l)[j]? = some x) : ∃ k, ∃ hk : k < l.length, (j = k * 2 ∧ x = .int .i64 l[k].1) ∨ (j = k * 2 + 1 ∧ x = .int .i64 l[k].2) := by
  have hl := (List.getElem?_eq_some_iff.1 h).1
  rw [pairs_len] at hl
  have hk : j / 2 < l.length := by omega
  have hp := pairs_get l (j / 2) hk
  refine ⟨j / 2, hk, ?_⟩
  by_cases he : j % 2 = 0
  · have e : j = j / 2 * 2 := by omega
    rw [← e, h] at hp
    exact Or.inl ⟨e, by simpa using hp.1⟩
  · have e : j = j / 2 * 2 + 1 := by omega
    rw [← e, h] at hp
    exact Or.inr ⟨e, by simpa using hp.2⟩

theorem open_pairsAt {H : Type} {enc' : TypeId × Value → H} {P : Program} {w : World} {base : Nat} {held : Bool} {r : Reach} {b0 : Nat} {v : Value} {d : DataW H} {ps : List MemPlace} {t e : TypeId} {f0 f1 : Field}
    (ht : P.underlying t = some (.slice e)) (he : P.underlying e = some (.struct #[f0, f1])) (ce : P.cellsOf e = 2) (o0 : f0.offset = 0) (o1 : f1.offset = 1) (c0 : P.cellsOf f0.type = 1) (c1 : P.cellsOf f1.type = 1)
    (u0 : P.underlying f0.type = some (.int .i64)) (u1 : P.underlying f1.type = some (.int .i64))
    (hval : Value.okWide P w r b0 t v) (hd : DataW.Trod enc' P w base (fun _ => true) held t v d ps) :
    ∃ l : List (Int × Int), RowAt w v 2 l.length (pairs l) ∧ l.length ≤ maxLen ∧ ∀ x, x ∈ l → -9223372036854775808 ≤ x.1 ∧ x.1 ≤ 9223372036854775807 ∧ -9223372036854775808 ≤ x.2 ∧ x.2 ≤ 9223372036854775807 := by
  obtain ⟨a0, l0, cc0, rfl⟩ := okWide_slice ht hval
  obtain ⟨fuel, hf⟩ := hd
  rcases open_slice_pairs ht he ce o0 o1 c0 c1 hf with ⟨h1, _⟩ | ⟨a, len, cap, m, n, V0, V1, D0, D1, P0, P1, h1, _, hlc, hcm, hm, _, hx⟩
  · simp [Value.cells] at h1
    obtain ⟨rfl, rfl, rfl⟩ := h1
    exact ⟨[], ⟨rfl, Or.inl ⟨rfl, _, _, rfl⟩⟩, Nat.zero_le _, by simp⟩
  · simp [Value.cells] at h1
    obtain ⟨rfl, rfl, rfl⟩ := h1
    simp only [if_true] at hm
    rcases Nat.eq_zero_or_pos l0 with h0 | h0
    · subst h0
      exact ⟨[], ⟨rfl, Or.inl ⟨rfl, _, _, rfl⟩⟩, Nat.zero_le _, by simp⟩
    · obtain ⟨g, off, spot⟩ := a
      have hs : spot = none := by
        have := World.cell?_spot (hx 0 (by omega)).1
        simpa [Addr.add] using this
      subst hs
      have hex : ∀ i, ∃ z : Int × Int, i < l0 → w.cell? ⟨g, off + i * 2, none⟩ = some (.int .i64 z.1) ∧ w.cell? ⟨g, off + (i * 2 + 1), none⟩ = some (.int .i64 z.2) ∧ -9223372036854775808 ≤ z.1 ∧ z.1 ≤ 9223372036854775807 ∧ -9223372036854775808 ≤ z.2 ∧ z.2 ≤ 9223372036854775807 := fun i => by
        by_cases hi : i < l0
        · obtain ⟨h2, h3, h4, h5⟩ := hx i (by omega)
          obtain ⟨z0, e0, _, w0⟩ := DataW.trod_int u0 h4
          obtain ⟨z1, e1, _, w1⟩ := DataW.trod_int u1 h5
          rw [add_plain] at h2 h3
          simp at e0 e1
          rw [e0] at h2
          rw [e1] at h3
          have := i64_of_wf w0
          have := i64_of_wf w1
          exact ⟨(z0, z1), fun _ => ⟨h2, h3, by omega⟩⟩
        · exact ⟨(0, 0), fun h => absurd h hi⟩
      obtain ⟨Z, hZ⟩ := Classical.axiomOfChoice hex
      have hlen : ((List.range l0).map Z).length = l0 := by simp
      refine ⟨(List.range l0).map Z, ⟨by rw [pairs_len], Or.inr ⟨g, off, cc0, by rw [hlen], fun j x hj => ?_⟩⟩, by rw [hlen]; omega, fun x hxm => ?_⟩
      · obtain ⟨k, hk, h2⟩ := pairs_split _ j x hj
        have hk' : k < l0 := by rwa [hlen] at hk
        have h3 := hZ k hk'
        simp only [List.getElem_map, List.getElem_range] at h2
        rcases h2 with ⟨rfl, rfl⟩ | ⟨rfl, rfl⟩
        · exact h3.1
        · exact h3.2.1
      · obtain ⟨k, hk, rfl⟩ := List.mem_map.1 hxm
        exact (hZ k (by simpa using hk)).2.2

end Go.Proofs.Ytneknlbmiofmlaa
