/- Slices of puts and of bools that came in as arguments. -/
import Derived.Test.YtdcplaonafmbjaaDkHelp
import Derived.Test.YtdcplaonafmbjaaOwn
import Derived.Deep.SlicePairs
import Derived.Deep.Grids
namespace Go.Proofs.Ytdcplaonafmbjaa
open Go.ChangeShapes Go.WideShapes Go.ChangeAt Go.RowKit Go.Deep

theorem puts_split (l : List (Int × ByteArray)) (j : Nat) (x : Value) (h : (puts l)[j]? = some x) : ∃ k, ∃ hk : k < l.length, (j = k * 2 ∧ x = .int .i64 l[k].1) ∨ (j = k * 2 + 1 ∧ x = .string l[k].2) := by
  have hl := (List.getElem?_eq_some_iff.1 h).1
  rw [puts_len] at hl
  have hk : j / 2 < l.length := by omega
  have hp := puts_get l (j / 2) hk
  refine ⟨j / 2, hk, ?_⟩
  by_cases he : j % 2 = 0
  · have e : j = j / 2 * 2 := by omega
    rw [← e, h] at hp
    exact Or.inl ⟨e, by simpa using hp.1⟩
  · have e : j = j / 2 * 2 + 1 := by omega
    rw [← e, h] at hp
    exact Or.inr ⟨e, by simpa using hp.2⟩

theorem open_putsAt {H : Type} {enc' : TypeId × Value → H} {P : Program} {w : World} {base : Nat} {held : Bool} {r : Reach} {b0 : Nat} {v : Value} {d : DataW H} {ps : List MemPlace} {t e : TypeId} {f0 f1 : Field}
    (ht : P.underlying t = some (.slice e)) (he : P.underlying e = some (.struct #[f0, f1])) (ce : P.cellsOf e = 2) (o0 : f0.offset = 0) (o1 : f1.offset = 1) (c0 : P.cellsOf f0.type = 1) (c1 : P.cellsOf f1.type = 1)
    (u0 : P.underlying f0.type = some (.int .i64)) (u1 : P.underlying f1.type = some .string)
    (hval : Value.okWide P w r b0 t v) (hd : DataW.Trod enc' P w base (fun _ => true) held t v d ps) :
    ∃ l : List (Int × ByteArray), PutsAt w v l ∧ l.length ≤ maxLen ∧ ∀ x, x ∈ l → x.2.size ≤ maxLen := by
  obtain ⟨a0, l0, cc0, rfl⟩ := okWide_slice ht hval
  obtain ⟨fuel, hf⟩ := hd
  rcases open_slice_pairs ht he ce o0 o1 c0 c1 hf with ⟨h1, _⟩ | ⟨a, len, cap, m, n, V0, V1, D0, D1, P0, P1, h1, _, hlc, hcm, hm, _, hx⟩
  · simp [Value.cells] at h1
    obtain ⟨rfl, rfl, rfl⟩ := h1
    exact ⟨[], ⟨rfl, Or.inl ⟨rfl, _, _, rfl⟩⟩, Nat.zero_le _, by simp⟩
  · simp [Value.cells] at h1
    obtain ⟨rfl, rfl, rfl⟩ := h1
    simp only [if_true] at hm
    rcases Nat.eq_zero_or_pos l0 with h0 | h0
    · subst h0
      exact ⟨[], ⟨rfl, Or.inl ⟨rfl, _, _, rfl⟩⟩, Nat.zero_le _, by simp⟩
    · obtain ⟨g, off, spot⟩ := a
      have hs : spot = none := by
        have := World.cell?_spot (hx 0 (by omega)).1
        simpa [Addr.add] using this
      subst hs
      have hex : ∀ i, ∃ z : Int × ByteArray, i < l0 → w.cell? ⟨g, off + i * 2, none⟩ = some (.int .i64 z.1) ∧ w.cell? ⟨g, off + (i * 2 + 1), none⟩ = some (.string z.2) ∧ z.2.size ≤ maxLen := fun i => by
        by_cases hi : i < l0
        · obtain ⟨h2, h3, h4, h5⟩ := hx i (by omega)
          obtain ⟨z0, e0, _, w0⟩ := DataW.trod_int u0 h4
          obtain ⟨z1, e1, _, w1⟩ := DataW.trod_string u1 h5
          rw [add_plain] at h2 h3
          simp at e0 e1
          rw [e0] at h2
          rw [e1] at h3
          exact ⟨(z0, z1), fun _ => ⟨h2, h3, w1⟩⟩
        · exact ⟨(0, ByteArray.empty), fun h => absurd h hi⟩
      obtain ⟨Z, hZ⟩ := Classical.axiomOfChoice hex
      have hlen : ((List.range l0).map Z).length = l0 := by simp
      refine ⟨(List.range l0).map Z, ⟨by rw [puts_len], Or.inr ⟨g, off, cc0, by rw [hlen], fun j x hj => ?_⟩⟩, by rw [hlen]; omega, fun x hxm => ?_⟩
      · obtain ⟨k, hk, h2⟩ := puts_split _ j x hj
        have hk' : k < l0 := by rwa [hlen] at hk
        have h3 := hZ k hk'
        simp only [List.getElem_map, List.getElem_range] at h2
        rcases h2 with ⟨rfl, rfl⟩ | ⟨rfl, rfl⟩
        · exact h3.1
        · exact h3.2.1
      · obtain ⟨k, hk, rfl⟩ := List.mem_map.1 hxm
        exact (hZ k (by simpa using hk)).2.2

theorem open_putsCap {H : Type} {enc' : TypeId × Value → H} {P : Program} {w : World} {base : Nat} {held : Bool} {r : Reach} {b0 : Nat} {v : Value} {d : DataW H} {ps : List MemPlace} {t e : TypeId} {f0 f1 : Field}
    (ht : P.underlying t = some (.slice e)) (he : P.underlying e = some (.struct #[f0, f1])) (ce : P.cellsOf e = 2) (o0 : f0.offset = 0) (o1 : f1.offset = 1) (c0 : P.cellsOf f0.type = 1) (c1 : P.cellsOf f1.type = 1)
    (hval : Value.okWide P w r b0 t v) (hd : DataW.Trod enc' P w base (fun _ => true) held t v d ps) {l : List (Int × ByteArray)} (hl : PutsAt w v l) : ∃ p c, v = .slice p l.length c ∧ l.length ≤ c := by
  obtain ⟨a0, l0, cc0, rfl⟩ := okWide_slice ht hval
  obtain ⟨p, cp, hv, _⟩ := puts_open hl l.length rfl
  injection hv with e1 e2 e3
  subst e1 e2 e3
  obtain ⟨fuel, hf⟩ := hd
  rcases open_slice_pairs ht he ce o0 o1 c0 c1 hf with ⟨h1, _⟩ | ⟨a, len, cap, m, n, V0, V1, D0, D1, P0, P1, h1, _, hlc, _⟩
  · simp [Value.cells] at h1
    obtain ⟨_, h2, _⟩ := h1
    exact ⟨_, _, rfl, by simp [h2]⟩
  · simp [Value.cells] at h1
    exact ⟨_, _, rfl, by omega⟩

theorem open_boolsAt {H : Type} {enc' : TypeId × Value → H} {P : Program} {w : World} {base : Nat} {held : Bool} {r : Reach} {b0 : Nat} {v : Value} {d : DataW H} {ps : List MemPlace} {t e : TypeId}
    (ht : P.underlying t = some (.slice e)) (he : P.underlying e = some .bool) (hc : P.cellsOf e = 1)
    (hval : Value.okWide P w r b0 t v) (hd : DataW.Trod enc' P w base (fun _ => true) held t v d ps) : ∃ K, BoolsAt w v K ∧ K.length ≤ maxLen := by
  obtain ⟨a0, l0, c0, rfl⟩ := okWide_slice ht hval
  obtain ⟨fuel, hf⟩ := hd
  rcases open_bools ht he hc hf with ⟨h1, _⟩ | ⟨a, len, cap, B, h1, _, hlc, hcm, _, hcell⟩
  · simp [Value.cells] at h1
    obtain ⟨rfl, rfl, rfl⟩ := h1
    exact ⟨[], ⟨rfl, Or.inl ⟨rfl, _, _, rfl⟩⟩, Nat.zero_le _⟩
  · simp [Value.cells] at h1
    obtain ⟨rfl, rfl, rfl⟩ := h1
    rcases Nat.eq_zero_or_pos l0 with h0 | h0
    · subst h0
      exact ⟨[], ⟨rfl, Or.inl ⟨rfl, _, _, rfl⟩⟩, Nat.zero_le _⟩
    · obtain ⟨g, off, spot⟩ := a
      have hs : spot = none := by
        have := World.cell?_spot (hcell 0 (by omega))
        simpa [Addr.add] using this
      subst hs
      have hlen : ((List.range l0).map B).length = l0 := by simp
      refine ⟨(List.range l0).map B, ⟨by simp [bools], Or.inr ⟨g, off, c0, by rw [hlen], fun j x hj => ?_⟩⟩, by rw [hlen]; omega⟩
      have hj' := (List.getElem?_eq_some_iff.1 hj).1
      simp only [bools, List.length_map, List.length_range] at hj'
      have := hcell j (by omega)
      rw [add_plain] at this
      rw [this]
      simp [bools, hj'] at hj
      rw [hj]

end Go.Proofs.Ytdcplaonafmbjaa
