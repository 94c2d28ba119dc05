/- Part of the proofs of FsCut: the texts OpenB. -/
import Derived.Test.YtpoglnpjadmbpaaGreatDoorMA1
import Derived.Test.YtpoglnpjadmbpaaGreatDoorMA2
import Derived.Test.YtpoglnpjadmbpaaGreatDoorRows
set_option maxHeartbeats 16000000
namespace Go.Proofs.YtpoglnpjadmbpaaGreatDoor
open Go.ChangeShapes Go.WideShapes Go.ChangeAt Go.RowKit
theorem ybvc {n : Int} (h : (Lit.int .u8 n).wf = true) : 0 ≤ n ∧ n ≤ 255 := by
 simp only [Lit.wf, IntKind.min, IntKind.max, IntKind.signed, IntKind.bits, Bool.and_eq_true] at h
 simp at h
 omega
theorem ybhk {w : World} {g off len cap : Nat} {zs : List Int} (hl : len ≤ zs.length) (h : ∀ i, i < zs.length → w.cell? ⟨g, off + i, none⟩ = some (.int .u8 (zs.getD i 0))) :
  qae w (.slice (some ⟨g, off, none⟩) len cap) (zs.take len) := by
 have e : (zs.take len).length = len := by rw [List.length_take]; omega
 refine ⟨by simp [u8s], Or.inr ⟨g, off, cap, by rw [e], fun j x hx => ?_⟩⟩
 have hj : j < (zs.take len).length := by
  have := (List.getElem?_eq_some_iff.1 hx).1
  simpa [u8s] using this
 rw [qcl _ j hj] at hx
 cases hx
 rw [h j (by omega)]
 simp [show j < zs.length by omega]
set_option maxRecDepth 100000 in
theorem yban {H : Type} {enc' : TypeId × Value → H} {w : World} {base : Nat} {held : Bool} {r : Reach} {b0 : Nat} {v : Value} {d : DataW H} {ps : List MemPlace}
  (hval : Value.okWide Tryz.prog w r b0 38 v) (hd : DataW.Trod enc' Tryz.prog w base (fun _ => true) held 38 v d ps) : ∃ l, qae w v l ∧ l.length ≤ maxLen ∧ ∀ x, x ∈ l → 0 ≤ x ∧ x ≤ 255 := by
 have ht : Tryz.prog.underlying 38 = some (.slice 5) := by kernel_rfl
 have he : Tryz.prog.underlying 5 = some (.int .u8) := by kernel_rfl
 have hc : Tryz.prog.cellsOf 5 = 1 := by kernel_rfl
 obtain ⟨a0, l0, c0, rfl⟩ := okWide_slice ht hval
 obtain ⟨fuel, hf⟩ := hd
 rcases open_ints ht he hc hf with ⟨h1, _⟩ | ⟨a, len, cap, zs, h1, _, hlc, hcm, hz, _, hcell, hin⟩
 ·simp [Value.cells] at h1
  obtain ⟨rfl, rfl, rfl⟩ := h1
  exact ⟨[], ⟨rfl, Or.inl ⟨rfl, _, _, rfl⟩⟩, Nat.zero_le _, by simp⟩
 ·simp [Value.cells] at h1
  obtain ⟨rfl, rfl, rfl⟩ := h1
  simp only [if_true] at hz
  rcases Nat.eq_zero_or_pos l0 with h0 | h0
  ·subst h0
   exact ⟨[], ⟨rfl, Or.inl ⟨rfl, _, _, rfl⟩⟩, Nat.zero_le _, by simp⟩
  ·obtain ⟨g, off, spot⟩ := a
   have hs : spot = none := by
    have := World.cell?_spot (hcell 0 (by omega))
    simpa [Addr.add] using this
   subst hs
   refine ⟨zs.take l0, ybhk (by omega) (fun i hi => ?_), by rw [List.length_take]; omega, fun x hx => ?_⟩
   ·have := hcell i hi
    rwa [add_plain] at this
   ·have := hin x (List.mem_of_mem_take hx)
    exact ybvc this
set_option maxRecDepth 100000 in
theorem qxl {H : Type} {enc' : TypeId × Value → H} {w : World} {base : Nat} {held : Bool} {r : Reach} {b0 : Nat} {v : Value} {d : DataW H} {ps : List MemPlace}
  (hval : Value.okWide Tryz.prog w r b0 38 v) (hd : DataW.Trod enc' Tryz.prog w base (fun _ => true) held 38 v d ps) {l : List Int} (hl : qae w v l) : ∃ p c, v = .slice p l.length c ∧ l.length ≤ c := by
 have ht : Tryz.prog.underlying 38 = some (.slice 5) := by kernel_rfl
 have he : Tryz.prog.underlying 5 = some (.int .u8) := by kernel_rfl
 have hc : Tryz.prog.cellsOf 5 = 1 := by kernel_rfl
 obtain ⟨a0, l0, c0, rfl⟩ := okWide_slice ht hval
 have hll : l0 = l.length := by
  obtain ⟨_, ⟨h0, a1, c1, he⟩ | ⟨g, o, cap, he, _⟩⟩ := hl
  ·injection he with _ e2 _; omega
  ·injection he with _ e2 _
 subst hll
 obtain ⟨fuel, hf⟩ := hd
 rcases open_ints ht he hc hf with ⟨h1, _⟩ | ⟨a, len, cap, zs, h1, _, hlc, _⟩
 ·simp [Value.cells] at h1
  obtain ⟨_, h2, _⟩ := h1
  exact ⟨_, _, rfl, by simp [h2]⟩
 ·simp [Value.cells] at h1
  exact ⟨_, _, rfl, by omega⟩
end Go.Proofs.YtpoglnpjadmbpaaGreatDoor
