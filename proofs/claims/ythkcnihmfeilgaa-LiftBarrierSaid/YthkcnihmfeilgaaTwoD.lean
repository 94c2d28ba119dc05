/- Two disks of the call's own. -/
import Derived.Test.YthkcnihmfeilgaaDkSpun
namespace Go.Proofs.Ythkcnihmfeilgaa
open Go.RowKit

def TwoD (w : World) (d e : Value) (s1 s2 : Dk) (F1 F2 : Nat → Prop) (wr : World) : Prop :=
  DiskAt wr d s1 16 F1 ∧ DiskAt wr e s2 16 F2 ∧ (∀ i, F1 i → w.heap.size ≤ i ∧ ¬ F2 i) ∧ (∀ i, F2 i → w.heap.size ≤ i) ∧ Below w.heap.size w wr
theorem TwoD.below {w wr w' : World} {d e : Value} {s1 s2 : Dk} {F1 F2 : Nat → Prop} (h : TwoD w d e s1 s2 F1 F2 wr) (hb : Below wr.heap.size wr w') : TwoD w d e s1 s2 F1 F2 w' :=
  ⟨h.1.below hb, h.2.1.below hb, h.2.2.1, h.2.2.2.1, Below.step h.2.2.2.2 hb⟩
theorem TwoD.did {w wr w' : World} {d e : Value} {s1 s2 s3 : Dk} {F1 F2 : Nat → Prop} (h : TwoD w d e s1 s2 F1 F2 wr) (hd : Did d s3 16 F1 wr w') : ∃ F3, TwoD w d e s3 s2 F3 F2 w' := by
  obtain ⟨h1, h2, h3, h4, h5⟩ := h
  obtain ⟨F3, g1, g2, g3⟩ := hd
  refine ⟨F3, g1, h2.keep g3 (fun i hi hc => (h3 i hc).2 hi), fun i hi => ?_, h4, h5.trans (g3.to_below (fun i hi => (h3 i hi).1) h5.size)⟩
  rcases g2 i hi with g | g
  · exact h3 i g
  · exact ⟨Nat.le_trans h5.size g, fun hc => by have := h2.fin i hc; omega⟩
theorem TwoD.swap {w wr : World} {d e : Value} {s1 s2 : Dk} {F1 F2 : Nat → Prop} (h : TwoD w d e s1 s2 F1 F2 wr) : TwoD w e d s2 s1 F2 F1 wr :=
  ⟨h.2.1, h.1, fun i hi => ⟨h.2.2.2.1 i hi, fun hc => (h.2.2.1 i hc).2 hi⟩, fun i hi => (h.2.2.1 i hi).1, h.2.2.2.2⟩

theorem TwoD.drew {w wr : World} {d e : Value} {s1 s2 : Dk} {F1 F2 : Nat → Prop} (h : TwoD w d e s1 s2 F1 F2 wr) : TwoD w d e s1 s2 F1 F2 wr.drew := ⟨h.1.drew, h.2.1.drew, h.2.2.1, h.2.2.2.1, h.2.2.2.2.drew⟩

end Go.Proofs.Ythkcnihmfeilgaa
