/- quota.Unpack. -/
import Derived.Test.YtneknlbmiofmlaaQuota15
import Derived.Test.YtneknlbmiofmlaaInode4
namespace Go.Proofs.Ytneknlbmiofmlaa
open Go.RowKit

def rowB (bs : List Int) (i : Nat) : Int × Int := (bs.getD (3 * i + 1) 0, bs.getD (3 * i + 2) 0 + bs.getD (3 * i + 3) 0 * 256)
def rowsB (bs : List Int) : List (Int × Int) := (List.range (bs.getD 0 0).toNat).map (rowB bs)
def goodQB (bs : List Int) : Prop := bs.length = 64 ∧ bs.getD 0 0 ≤ 20 ∧ rightQ (rowsB bs) = 0 ∧ packQ (rowsB bs).length (rowsB bs) = bs
def UnpQRes (bs : List Int) (w : World) (e : Ending) (w' : World) : Prop :=
  (goodQB bs ∧ ∃ v, e = .returned (.tuple #[v, .int .i64 0]) ∧ RowAt w' v 2 (rowsB bs).length (pairs (rowsB bs)) ∧ Below w.heap.size w w') ∨
  (¬ goodQB bs ∧ e = .returned (.tuple #[.slice none 0 0, .int .i64 3]) ∧ Below w.heap.size w w')

set_option maxHeartbeats 400000 in
theorem unpackQ_short (v : Value) (bs : List Int) (w : World) (h : BytesAt w v bs) (hn : bs.length ≠ 64) (hl : bs.length ≤ 1000000) :
    Calls Try.prog 37 #[v] w (UnpQRes bs w) := by
  have _ := hl
  obtain ⟨N, HN⟩ : ∃ N, Hid (N = bs.length) := ⟨_, rfl⟩
  obtain ⟨q, cp, hu⟩ : ∃ p cp, v = .slice p N cp := by
    rw [HN.out]
    obtain ⟨_, ⟨h0, a0, c0, rfl⟩ | ⟨g, o, cap, rfl, hc⟩⟩ := h
    · exact ⟨a0, c0, by rw [h0]⟩
    · exact ⟨_, cap, rfl⟩
  subst hu
  rw [← HN.out] at hl hn
  have hne : ((N : Int) != 64) = true := by rw [bne_iff_ne]; omega
  have HB : Hid (¬ goodQB bs) := fun hg => hn (HN.out.trans hg.1)
  clear h hn
  go_enter Try.func37, Try.ntmps37
  go_wp2
  go_ret2
  exact Or.inr ⟨HB.out, rfl, Below.refl _ _⟩

set_option maxHeartbeats 400000 in
theorem unpackQ_many (bs : List Int) (g off cap : Nat) (b0 : Int) (w : World) (hc : w.cell? ⟨g, off, none⟩ = some (.int .u8 b0)) (Hb : Hid (b0 = bs.getD 0 0)) (h20 : 20 < b0) (h255 : b0 ≤ 255) :
    Calls Try.prog 37 #[.slice (some ⟨g, off, none⟩) 64 cap] w (UnpQRes bs w) := by
  have HB : Hid (¬ goodQB bs) := fun hg => by have := hg.2.1; rw [← Hb.out] at this; omega
  go_enter Try.func37, Try.ntmps37
  go_wp2
  go_ret2
  exact Or.inr ⟨HB.out, rfl, Below.refl _ _⟩

end Go.Proofs.Ytneknlbmiofmlaa
