/- A set that came in as an argument. -/
import Derived.Test.YtnmfbhiooccgfaaRows
import Derived.Test.YtnmfbhiooccgfaaLawEnd
import Derived.Test.YtnmfbhiooccgfaaPlainData
import Derived.Test.YtnmfbhiooccgfaaBits4
namespace Go.Proofs.Ytnmfbhiooccgfaa
open Go.ChangeShapes Go.WideShapes Go.ChangeAt Go.RowKit

theorem Try.own : ownKnob Try.prog.godebug = none := by kernel_rfl
theorem Try.laidOut : laidOutB Try.prog = true := by kernel_rfl
theorem setPlain : plainT Try.prog 3 23 = true := by kernel_rfl
theorem byteC : Try.prog.cellsOf 5 = 1 := by kernel_rfl
theorem setC : Try.prog.cellsOf 23 = 32 := by kernel_rfl

theorem set_of_cells (cs : Array Value) (hl : cs.size = 32) (h : ∀ i, i < 32 → ∃ x : Int, cs.toList[i]? = some (.int .u8 x) ∧ (Lit.int .u8 x).wf = true) : ∃ s, cs = enc s := by
  have hx : ∀ i, i < 32 → ∃ x : Nat, cs[i]? = some (.int .u8 (x : Int)) ∧ x < 256 := fun i hi => by
    obtain ⟨x, h1, h2⟩ := h i hi
    have h3 : 0 ≤ x ∧ x < 256 := by
      simp [Lit.wf, IntKind.min, IntKind.max, IntKind.bits, IntKind.signed] at h2
      omega
    obtain ⟨n, rfl⟩ := Int.eq_ofNat_of_zero_le h3.1
    exact ⟨n, by simpa using h1, by omega⟩
  have hb : ∃ f : Nat → Nat, ∀ i, i < 32 → cs[i]? = some (.int .u8 (f i : Int)) ∧ f i < 256 :=
    ⟨fun i => if hi : i < 32 then (hx i hi).choose else 0, fun i hi => by simp only [hi, dif_pos]; exact (hx i hi).choose_spec⟩
  obtain ⟨f, hf⟩ := hb
  refine ⟨fun m => (f (m / 8)).testBit (m % 8), ?_⟩
  apply Array.ext_getElem?
  intro i
  by_cases hi : i < 32
  · rw [(hf i hi).1, enc_get _ _ hi]
    have : byteAt (fun m => (f (m / 8)).testBit (m % 8)) i = f i := by
      have e : byteAt (fun m => (f (m / 8)).testBit (m % 8)) i = byteN (fun j => (f i).testBit j) := byteN_congr fun j hj => by
        have e1 : (8 * i + j) / 8 = i := by omega
        have e2 : (8 * i + j) % 8 = j := by omega
        simp only [e1, e2]
      rw [e, byteN_bits _ (hf i hi).2]
    rw [this]
  · rw [Array.getElem?_eq_none (by omega), Array.getElem?_eq_none (by simp [enc_size]; omega)]

theorem open_set {H : Type} {enc' : TypeId × Value → H} {w : World} {base : Nat} {spare : Nat → Bool} {held : Bool} {r : Reach} {b0 : Nat} {v : Value} {d : DataW H} {ps : List MemPlace}
    (hval : Value.okWide Try.prog w r b0 23 v) (hd : DataW.Trod enc' Try.prog w base spare held 23 v d ps) : ∃ s, v = .agg (enc s) := by
  unfold Value.okWide at hval
  rw [setT] at hval
  obtain ⟨cs, rfl, hs, _⟩ := hval
  obtain ⟨fuel, hf⟩ := hd
  obtain ⟨s, rfl⟩ := set_of_cells cs (by rw [hs, setC]) (trod_array_ints setT byteT byteC (by simpa [Value.cells] using hf))
  exact ⟨s, rfl⟩

end Go.Proofs.Ytnmfbhiooccgfaa
