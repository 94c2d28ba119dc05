/- Entries, an entry, a text, bytes that came in as arguments. -/
import Derived.Test.YtheiaebmemcbhaaDoorEnts
import Derived.Test.YtheiaebmemcbhaaDoorOpenB
import Derived.Deep.SlicePairs
import Derived.Deep.Slices
import Derived.Deep.Grids
import Derived.Deep.Fields
import Derived.Lib.SmallJoins
namespace Go.Proofs.YtheiaebmemcbhaaDoor
open Go.Joins Go.ChangeShapes Go.WideShapes Go.ChangeAt Go.RowKit Go.Deep

theorem i64_of_wf {n : Int} (h : (Lit.int .i64 n).wf = true) : -9223372036854775808 ≤ n ∧ n ≤ 9223372036854775807 := by
  simp only [Lit.wf, IntKind.min, IntKind.max, IntKind.signed, IntKind.bits, Bool.and_eq_true, decide_eq_true_eq] at h
  simp at h
  omega

theorem ents_split (l : List En) (j : Nat) (x : Value) (h : (ents l)[j]? = some x) : ∃ k, ∃ hk : k < l.length, (j = k * 2 ∧ x = .string l[k].1) ∨ (j = k * 2 + 1 ∧ x = .int .i64 l[k].2) := by
  have hl := (List.getElem?_eq_some_iff.1 h).1
  rw [ents_len] at hl
  have hk : j / 2 < l.length := by omega
  have hp := ents_get l (j / 2) hk
  refine ⟨j / 2, hk, ?_⟩
  by_cases he : j % 2 = 0
  · have e : j = j / 2 * 2 := by omega
    rw [← e, h] at hp
    exact Or.inl ⟨e, by simpa using hp.1⟩
  · have e : j = j / 2 * 2 + 1 := by omega
    rw [← e, h] at hp
    exact Or.inr ⟨e, by simpa using hp.2⟩

theorem open_entsAt {H : Type} {enc' : TypeId × Value → H} {P : Program} {w : World} {base : Nat} {held : Bool} {r : Reach} {b0 : Nat} {v : Value} {d : DataW H} {ps : List MemPlace} {t e : TypeId} {f0 f1 : Field}
    (ht : P.underlying t = some (.slice e)) (he : P.underlying e = some (.struct #[f0, f1])) (ce : P.cellsOf e = 2) (o0 : f0.offset = 0) (o1 : f1.offset = 1) (c0 : P.cellsOf f0.type = 1) (c1 : P.cellsOf f1.type = 1)
    (u0 : P.underlying f0.type = some .string) (u1 : P.underlying f1.type = some (.int .i64))
    (hval : Value.okWide P w r b0 t v) (hd : DataW.Trod enc' P w base (fun _ => true) held t v d ps) :
    ∃ l : List En, EntsAt w v l ∧ l.length ≤ maxLen ∧ ∀ x, x ∈ l → x.1.size ≤ maxLen := by
  obtain ⟨a0, l0, cc0, rfl⟩ := okWide_slice ht hval
  obtain ⟨fuel, hf⟩ := hd
  rcases open_slice_pairs ht he ce o0 o1 c0 c1 hf with ⟨h1, _⟩ | ⟨a, len, cap, m, n, V0, V1, D0, D1, P0, P1, h1, _, hlc, hcm, hm, _, hx⟩
  · simp [Value.cells] at h1
    obtain ⟨rfl, rfl, rfl⟩ := h1
    exact ⟨[], ⟨rfl, Or.inl ⟨rfl, _, _, rfl⟩⟩, Nat.zero_le _, by simp⟩
  · simp [Value.cells] at h1
    obtain ⟨rfl, rfl, rfl⟩ := h1
    simp only [if_true] at hm
    rcases Nat.eq_zero_or_pos l0 with h0 | h0
    · subst h0
      exact ⟨[], ⟨rfl, Or.inl ⟨rfl, _, _, rfl⟩⟩, Nat.zero_le _, by simp⟩
    · obtain ⟨g, off, spot⟩ := a
      have hs : spot = none := by
        have := World.cell?_spot (hx 0 (by omega)).1
        simpa [Addr.add] using this
      subst hs
      have hex : ∀ i, ∃ z : En, i < l0 → w.cell? ⟨g, off + i * 2, none⟩ = some (.string z.1) ∧ w.cell? ⟨g, off + (i * 2 + 1), none⟩ = some (.int .i64 z.2) ∧ z.1.size ≤ maxLen := fun i => by
        by_cases hi : i < l0
        · obtain ⟨h2, h3, h4, h5⟩ := hx i (by omega)
          obtain ⟨z0, e0, _, w0⟩ := DataW.trod_string u0 h4
          obtain ⟨z1, e1, _, w1⟩ := DataW.trod_int u1 h5
          rw [add_plain] at h2 h3
          simp at e0 e1
          rw [e0] at h2
          rw [e1] at h3
          exact ⟨(z0, z1), fun _ => ⟨h2, h3, w0⟩⟩
        · exact ⟨(ByteArray.empty, 0), fun h => absurd h hi⟩
      obtain ⟨Z, hZ⟩ := Classical.axiomOfChoice hex
      have hlen : ((List.range l0).map Z).length = l0 := by simp
      refine ⟨(List.range l0).map Z, ⟨by rw [ents_len], Or.inr ⟨g, off, cc0, by rw [hlen], fun j x hj => ?_⟩⟩, by rw [hlen]; omega, fun x hxm => ?_⟩
      · obtain ⟨k, hk, h2⟩ := ents_split _ j x hj
        have hk' : k < l0 := by rwa [hlen] at hk
        have h3 := hZ k hk'
        simp only [List.getElem_map, List.getElem_range] at h2
        rcases h2 with ⟨rfl, rfl⟩ | ⟨rfl, rfl⟩
        · exact h3.1
        · exact h3.2.1
      · obtain ⟨k, hk, rfl⟩ := List.mem_map.1 hxm
        exact (hZ k (by simpa using hk)).2.2
theorem open_entAt {H : Type} {enc' : TypeId × Value → H} {P : Program} {w : World} {base : Nat} {held : Bool} {r : Reach} {b0 : Nat} {v : Value} {d : DataW H} {ps : List MemPlace} {t : TypeId} {f0 f1 : Field}
    (hs : P.underlying t = some (.struct #[f0, f1])) (hone : oneCellFields P #[f0, f1] = true) (hC : P.cellsOf t = 2) (u0 : P.underlying f0.type = some .string) (u1 : P.underlying f1.type = some (.int .i64))
    (hv : Value.okWide P w r b0 t v) (h : DataW.Trod enc' P w base (fun _ => true) held t v d ps) : ∃ (s : ByteArray) (n : Int), v = .agg #[.string s, .int .i64 n] ∧ s.size ≤ maxLen ∧ (-9223372036854775808 ≤ n ∧ n ≤ 9223372036854775807) := by
  obtain ⟨cs, rfl, hsz⟩ := okWide_struct hs hv
  obtain ⟨L⟩ := cs
  match L, hsz.trans hC with
  | [c0, c1], _ =>
    obtain ⟨fuel, hf⟩ := h
    obtain ⟨xs, n, _, hx, _, hlen, hg⟩ := DataW.trod_struct hs hf
    obtain ⟨o0, k0⟩ := hone_of hone 0 f0 rfl
    obtain ⟨o1, k1⟩ := hone_of hone 1 f1 rfl
    match xs, hlen with
    | [y0, y1], _ =>
      have t0 : DataW.trod enc' P w base (fun _ => true) held n f0.type [c0] = some y0 := by simpa [Value.cells, o0, k0] using hg 0 f0 rfl
      have t1 : DataW.trod enc' P w base (fun _ => true) held n f1.type [c1] = some y1 := by simpa [Value.cells, o1, k1] using hg 1 f1 rfl
      obtain ⟨z0, e0, _, w0⟩ := DataW.trod_string u0 t0
      obtain ⟨z1, e1, _, w1⟩ := DataW.trod_int u1 t1
      simp at e0 e1
      subst e0 e1
      exact ⟨z0, z1, rfl, w0, i64_of_wf w1⟩
theorem open_entsCap {H : Type} {enc' : TypeId × Value → H} {P : Program} {w : World} {base : Nat} {held : Bool} {r : Reach} {b0 : Nat} {v : Value} {d : DataW H} {ps : List MemPlace} {t e : TypeId} {f0 f1 : Field}
    (ht : P.underlying t = some (.slice e)) (he : P.underlying e = some (.struct #[f0, f1])) (ce : P.cellsOf e = 2) (o0 : f0.offset = 0) (o1 : f1.offset = 1) (c0 : P.cellsOf f0.type = 1) (c1 : P.cellsOf f1.type = 1)
    (hval : Value.okWide P w r b0 t v) (hd : DataW.Trod enc' P w base (fun _ => true) held t v d ps) : ∀ p n c, v = .slice p n c → n ≤ c := by
  obtain ⟨a0, l0, cc0, rfl⟩ := okWide_slice ht hval
  obtain ⟨fuel, hf⟩ := hd
  intro p n c hv
  injection hv with e1 e2 e3
  rcases open_slice_pairs ht he ce o0 o1 c0 c1 hf with ⟨h1, _⟩ | ⟨a, len, cap, m, n, V0, V1, D0, D1, P0, P1, h1, _, hlc, _⟩
  · simp [Value.cells] at h1
    obtain ⟨_, h2, h3⟩ := h1
    omega
  · simp [Value.cells] at h1
    omega
end Go.Proofs.YtheiaebmemcbhaaDoor
