/- A forest that came in as an argument. -/
import Derived.Test.YtnmfbhiooccgfaaOpenSet
import Derived.Test.YtnmfbhiooccgfaaPlainLeaf
import Derived.Test.YtnmfbhiooccgfaaSnap4
namespace Go.Proofs.Ytnmfbhiooccgfaa
open Go.ChangeShapes Go.WideShapes Go.ChangeAt Go.RowKit

def kindF (i : Nat) : IntKind := if i % 48 < 16 then .i64 else .u8
theorem forLeaf : (List.range 192).all (fun i => leafAt Try.prog 5 42 i == some (kindF i)) = true := by kernel_rfl
theorem forC : Try.prog.cellsOf 42 = 192 := by kernel_rfl

theorem byte_bits (x : Nat) (hx : x < 256) : ∃ s : Nat → Bool, byteN s = x := ⟨fun j => x.testBit j, byteN_bits _ hx⟩
theorem for_of_cells (cs : Array Value) (hl : cs.size = 192) (h : ∀ i, i < 192 → ∃ x : Int, cs.toList[i]? = some (.int (kindF i) x) ∧ (Lit.int (kindF i) x).wf = true) : ∃ f, cs = encF f := by
  have hb : ∃ g : Nat → Int, ∀ i, i < 192 → cs[i]? = some (.int (kindF i) (g i)) ∧ (Lit.int (kindF i) (g i)).wf = true :=
    ⟨fun i => if hi : i < 192 then (h i hi).choose else 0, fun i hi => by
      simp only [hi, dif_pos]
      have := (h i hi).choose_spec
      exact ⟨by simpa using this.1, this.2⟩⟩
  obtain ⟨g, hg⟩ := hb
  have hby : ∀ i, i < 192 → ¬ i % 48 < 16 → ∃ x : Nat, g i = (x : Int) ∧ x < 256 := fun i hi hk => by
    have h2 := (hg i hi).2
    unfold kindF at h2
    rw [if_neg hk] at h2
    simp [Lit.wf, IntKind.min, IntKind.max, IntKind.bits, IntKind.signed] at h2
    obtain ⟨n, hn⟩ := Int.eq_ofNat_of_zero_le h2.1
    exact ⟨n, hn, by omega⟩
  refine ⟨⟨fun k j => g (k * 48 + j), fun k m => ((g (k * 48 + 16 + m / 8)).toNat).testBit (m % 8)⟩, ?_⟩
  apply Array.ext_getElem?
  intro i
  by_cases hi : i < 192
  · obtain ⟨k, j, hk, hj, rfl⟩ : ∃ k j, k < 4 ∧ j < 48 ∧ i = k * 48 + j := ⟨i / 48, i % 48, by omega, by omega, by omega⟩
    rw [(hg _ hi).1, encF_get _ k j hk hj]
    unfold cellF kindF
    rw [show (k * 48 + j) % 48 = j by omega]
    by_cases h16 : j < 16
    · rw [if_pos h16, if_pos h16]
    · rw [if_neg h16, if_neg h16]
      obtain ⟨x, hx, hx2⟩ := hby (k * 48 + j) hi (by omega)
      have : byteAt (fun m => ((g (k * 48 + 16 + m / 8)).toNat).testBit (m % 8)) (j - 16) = x := by
        have e : byteAt (fun m => ((g (k * 48 + 16 + m / 8)).toNat).testBit (m % 8)) (j - 16) = byteN (fun b => x.testBit b) := byteN_congr fun b hb => by
          have e1 : (8 * (j - 16) + b) / 8 = j - 16 := by omega
          have e2 : (8 * (j - 16) + b) % 8 = b := by omega
          simp only [e1, e2]
          rw [show k * 48 + 16 + (j - 16) = k * 48 + j by omega, hx, Int.toNat_natCast]
        rw [e, byteN_bits _ hx2]
      rw [this, hx]
  · rw [Array.getElem?_eq_none (by omega), Array.getElem?_eq_none (by rw [encF_size]; omega)]

theorem open_for {H : Type} {enc' : TypeId × Value → H} {w : World} {base : Nat} {spare : Nat → Bool} {held : Bool} {r : Reach} {b0 : Nat} {v : Value} {d : DataW H} {ps : List MemPlace}
    (hval : Value.okWide Try.prog w r b0 42 v) (hd : DataW.Trod enc' Try.prog w base spare held 42 v d ps) : ∃ f, v = .agg (encF f) := by
  unfold Value.okWide at hval
  rw [forT] at hval
  obtain ⟨cs, rfl, hs, _⟩ := hval
  obtain ⟨fuel, hf⟩ := hd
  obtain ⟨f, rfl⟩ := for_of_cells cs (by rw [hs, forC]) fun i hi =>
    trod_leaf w base spare held 5 42 i (kindF i) (by have := (List.all_eq_true.1 forLeaf) i (List.mem_range.2 hi); simpa using this) fuel cs.toList _ (by simpa [Value.cells] using hf)
  exact ⟨f, rfl⟩

end Go.Proofs.Ytnmfbhiooccgfaa
