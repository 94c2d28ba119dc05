/- A slice of uses that came in as an argument. -/
import Derived.Test.YthkcnihmfeilgaaBufSome
import Derived.Test.YthkcnihmfeilgaaOwn
import Derived.Deep.SlicePairs
namespace Go.Proofs.Ythkcnihmfeilgaa
open Go.ChangeShapes Go.WideShapes Go.ChangeAt Go.RowKit Go.Deep

section
variable {H : Type} {enc : TypeId × Value → H} {P : Program} {w : World} {base : Nat} {spare : Nat → Bool} {held : Bool}
/-- A slice of structs of three fields of one cell, opened at every index below its length. -/
theorem open_triples {t e : TypeId} {f0 f1 f2 : Field} {fuel : Nat} {cs : List Value} {x : DataW H × List MemPlace} (ht : P.underlying t = some (.slice e)) (he : P.underlying e = some (.struct #[f0, f1, f2]))
    (ce : P.cellsOf e = 3) (o0 : f0.offset = 0) (o1 : f1.offset = 1) (o2 : f2.offset = 2) (c0 : P.cellsOf f0.type = 1) (c1 : P.cellsOf f1.type = 1) (c2 : P.cellsOf f2.type = 1)
    (h : DataW.trod enc P w base spare held fuel t cs = some x) :
    cs = [.slice none 0 0] ∨
    ∃ (a : Addr) (len cap n : Nat), cs = [.slice (some a) len cap] ∧ len ≤ cap ∧ cap ≤ maxLen ∧
      ∀ i, i < len → ∃ (v0 v1 v2 : Value) (y0 y1 y2 : DataW H × List MemPlace), w.cell? (a.add (i * 3)) = some v0 ∧ w.cell? (a.add (i * 3 + 1)) = some v1 ∧ w.cell? (a.add (i * 3 + 2)) = some v2 ∧
        DataW.trod enc P w base spare held n f0.type [v0] = some y0 ∧ DataW.trod enc P w base spare held n f1.type [v1] = some y1 ∧ DataW.trod enc P w base spare held n f2.type [v2] = some y2 := by
  rcases open_slice ht h with h0 | ⟨a, len, cap, m, n, D, Pl, rfl, hb, hl, hm, hmm, rfl, hx⟩
  · exact Or.inl h0.1
  right
  have hlm : len ≤ m := by rw [hmm]; split <;> omega
  refine ⟨a, len, cap, n - 1, rfl, hl, hm, fun i hi => ?_⟩
  obtain ⟨cs', h1, h2⟩ := hx i (by omega)
  rw [ce] at h1
  obtain ⟨_, hlen, hcell⟩ := World.cells?_some h1
  obtain ⟨xs, k, hk, hxy, _, hxl, hf⟩ := DataW.trod_struct he h2
  have hk' : k = n - 1 := by omega
  subst hk'
  match xs, hxl, cs', hlen with
  | [y0, y1, y2], _, [v0, v1, v2], _ =>
    have g0 := hf 0 f0 rfl
    have g1 := hf 1 f1 rfl
    have g2 := hf 2 f2 rfl
    simp [o0, o1, o2, c0, c1, c2] at g0 g1 g2
    have e0 := hcell 0 (by omega)
    have e1 := hcell 1 (by omega)
    have e2 := hcell 2 (by omega)
    rw [add_add] at e0 e1 e2
    exact ⟨v0, v1, v2, y0, y1, y2, by simpa using e0, by simpa using e1, by simpa using e2, g0, g1, g2⟩
end

theorem uses_split (l : List (Int × ByteArray × Bool)) (j : Nat) (x : Value) (h : (uses l)[j]? = some x) : ∃ k, ∃ hk : k < l.length, (j = k * 3 ∧ x = .int .i64 l[k].1) ∨ (j = k * 3 + 1 ∧ x = .string l[k].2.1) ∨ (j = k * 3 + 2 ∧ x = .bool l[k].2.2) := by
  have hl := (List.getElem?_eq_some_iff.1 h).1
  rw [uses_len] at hl
  have hk : j / 3 < l.length := by omega
  have hp := uses_get l (j / 3) hk
  refine ⟨j / 3, hk, ?_⟩
  rcases (by omega : j % 3 = 0 ∨ j % 3 = 1 ∨ j % 3 = 2) with he | he | he
  · have e : j = j / 3 * 3 := by omega
    rw [← e, h] at hp
    exact Or.inl ⟨e, by simpa using hp.1⟩
  · have e : j = j / 3 * 3 + 1 := by omega
    rw [← e, h] at hp
    exact Or.inr (Or.inl ⟨e, by simpa using hp.2.1⟩)
  · have e : j = j / 3 * 3 + 2 := by omega
    rw [← e, h] at hp
    exact Or.inr (Or.inr ⟨e, by simpa using hp.2.2⟩)

theorem open_usesAt {H : Type} {enc' : TypeId × Value → H} {P : Program} {w : World} {base : Nat} {held : Bool} {r : Reach} {b0 : Nat} {v : Value} {d : DataW H} {ps : List MemPlace} {t e : TypeId} {f0 f1 f2 : Field}
    (ht : P.underlying t = some (.slice e)) (he : P.underlying e = some (.struct #[f0, f1, f2])) (ce : P.cellsOf e = 3) (o0 : f0.offset = 0) (o1 : f1.offset = 1) (o2 : f2.offset = 2) (c0 : P.cellsOf f0.type = 1) (c1 : P.cellsOf f1.type = 1) (c2 : P.cellsOf f2.type = 1)
    (u0 : P.underlying f0.type = some (.int .i64)) (u1 : P.underlying f1.type = some .string) (u2 : P.underlying f2.type = some .bool)
    (hval : Value.okWide P w r b0 t v) (hd : DataW.Trod enc' P w base (fun _ => true) held t v d ps) :
    ∃ l : List (Int × ByteArray × Bool), UsesAt w v l ∧ l.length ≤ maxLen ∧ ∀ x, x ∈ l → x.2.1.size ≤ maxLen := by
  obtain ⟨a0, l0, cc0, rfl⟩ := okWide_slice ht hval
  obtain ⟨fuel, hf⟩ := hd
  rcases open_triples ht he ce o0 o1 o2 c0 c1 c2 hf with h1 | ⟨a, len, cap, n, h1, hlc, hcm, hx⟩
  · simp [Value.cells] at h1
    obtain ⟨rfl, rfl, rfl⟩ := h1
    exact ⟨[], ⟨rfl, Or.inl ⟨rfl, _, _, rfl⟩⟩, Nat.zero_le _, by simp⟩
  · simp [Value.cells] at h1
    obtain ⟨rfl, rfl, rfl⟩ := h1
    rcases Nat.eq_zero_or_pos l0 with h0 | h0
    · subst h0
      exact ⟨[], ⟨rfl, Or.inl ⟨rfl, _, _, rfl⟩⟩, Nat.zero_le _, by simp⟩
    · obtain ⟨g, off, spot⟩ := a
      have hs : spot = none := by
        obtain ⟨v0, _, _, _, _, _, hh, _⟩ := hx 0 (by omega)
        have := World.cell?_spot hh
        simpa [Addr.add] using this
      subst hs
      have hex : ∀ i, ∃ z : Int × ByteArray × Bool, i < l0 → w.cell? ⟨g, off + i * 3, none⟩ = some (.int .i64 z.1) ∧ w.cell? ⟨g, off + (i * 3 + 1), none⟩ = some (.string z.2.1) ∧ w.cell? ⟨g, off + (i * 3 + 2), none⟩ = some (.bool z.2.2) ∧ z.2.1.size ≤ maxLen := fun i => by
        by_cases hi : i < l0
        · obtain ⟨v0, v1, v2, y0, y1, y2, h2, h3, h4, h5, h6, h7⟩ := hx i hi
          obtain ⟨z0, e0, _, w0⟩ := DataW.trod_int u0 h5
          obtain ⟨z1, e1, _, w1⟩ := DataW.trod_string u1 h6
          obtain ⟨z2, e2, _⟩ := DataW.trod_bool u2 h7
          rw [add_plain] at h2 h3 h4
          simp at e0 e1 e2
          rw [e0] at h2
          rw [e1] at h3
          rw [e2] at h4
          exact ⟨(z0, z1, z2), fun _ => ⟨h2, h3, h4, w1⟩⟩
        · exact ⟨(0, ByteArray.empty, false), fun h => absurd h hi⟩
      obtain ⟨Z, hZ⟩ := Classical.axiomOfChoice hex
      have hlen : ((List.range l0).map Z).length = l0 := by simp
      refine ⟨(List.range l0).map Z, ⟨by rw [uses_len], Or.inr ⟨g, off, cc0, by rw [hlen], fun j x hj => ?_⟩⟩, by rw [hlen]; omega, fun x hxm => ?_⟩
      · obtain ⟨k, hk, h2⟩ := uses_split _ j x hj
        have hk' : k < l0 := by rwa [hlen] at hk
        have h3 := hZ k hk'
        simp only [List.getElem_map, List.getElem_range] at h2
        rcases h2 with ⟨rfl, rfl⟩ | ⟨rfl, rfl⟩ | ⟨rfl, rfl⟩
        · exact h3.1
        · exact h3.2.1
        · exact h3.2.2.1
      · obtain ⟨k, hk, rfl⟩ := List.mem_map.1 hxm
        exact (hZ k (by simpa using hk)).2.2.2

end Go.Proofs.Ythkcnihmfeilgaa
