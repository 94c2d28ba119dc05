/- A slice of ints that came in as an argument. -/
import Derived.Test.YtablomjaaifgfaaOwn
namespace Go.Proofs.Ytablomjaaifgfaa
open Go.ChangeShapes Go.WideShapes Go.ChangeAt Go.RowKit

theorem intsAt_of {w : World} {g off len cap : Nat} {zs : List Int} (hl : len ≤ zs.length) (h : ∀ i, i < zs.length → w.cell? ⟨g, off + i, none⟩ = some (.int .i64 (zs.getD i 0))) :
    IntsAt w (.slice (some ⟨g, off, none⟩) len cap) (zs.take len) := by
  have e : (zs.take len).length = len := by rw [List.length_take]; omega
  refine ⟨by simp [ints], Or.inr ⟨g, off, cap, by rw [e], fun j x hx => ?_⟩⟩
  have hj : j < (zs.take len).length := by
    have := (List.getElem?_eq_some_iff.1 hx).1
    simpa [ints] using this
  rw [ints_get _ j hj] at hx
  cases hx
  rw [h j (by omega)]
  simp [show j < zs.length by omega]

set_option maxRecDepth 100000 in
theorem open_intsAt {H : Type} {enc' : TypeId × Value → H} {w : World} {base : Nat} {held : Bool} {r : Reach} {b0 : Nat} {v : Value} {d : DataW H} {ps : List MemPlace}
    (hval : Value.okWide Try.prog w r b0 22 v) (hd : DataW.Trod enc' Try.prog w base (fun _ => true) held 22 v d ps) : ∃ l, IntsAt w v l ∧ l.length ≤ maxLen := by
  have ht : Try.prog.underlying 22 = some (.slice 3) := by kernel_rfl
  have he : Try.prog.underlying 3 = some (.int .i64) := by kernel_rfl
  have hc : Try.prog.cellsOf 3 = 1 := by kernel_rfl
  obtain ⟨a0, l0, c0, rfl⟩ := okWide_slice ht hval
  obtain ⟨fuel, hf⟩ := hd
  rcases open_ints ht he hc hf with ⟨h1, _⟩ | ⟨a, len, cap, zs, h1, _, hlc, hcm, hz, _, hcell, _⟩
  · simp [Value.cells] at h1
    obtain ⟨rfl, rfl, rfl⟩ := h1
    exact ⟨[], ⟨rfl, Or.inl ⟨rfl, _, _, rfl⟩⟩, Nat.zero_le _⟩
  · simp [Value.cells] at h1
    obtain ⟨rfl, rfl, rfl⟩ := h1
    simp only [if_true] at hz
    rcases Nat.eq_zero_or_pos l0 with h0 | h0
    · subst h0
      exact ⟨[], ⟨rfl, Or.inl ⟨rfl, _, _, rfl⟩⟩, Nat.zero_le _⟩
    · obtain ⟨g, off, spot⟩ := a
      have hs : spot = none := by
        have := World.cell?_spot (hcell 0 (by omega))
        simpa [Addr.add] using this
      subst hs
      refine ⟨zs.take l0, intsAt_of (by omega) (fun i hi => ?_), by rw [List.length_take]; omega⟩
      have := hcell i hi
      rwa [add_plain] at this

end Go.Proofs.Ytablomjaaifgfaa
