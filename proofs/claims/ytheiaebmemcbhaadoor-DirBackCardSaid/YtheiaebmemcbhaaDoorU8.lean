/- A slice that reads as bytes. -/
import Derived.Test.YtheiaebmemcbhaaDoorExtPlain
namespace Go.Proofs.YtheiaebmemcbhaaDoor
open Go.RowKit

def u8s (l : List Int) : List Value := l.map fun n => Value.int .u8 n
/-- The slice v reads as the bytes l. -/
def BytesAt (w : World) (v : Value) (l : List Int) : Prop := RowAt w v 1 l.length (u8s l)
theorem u8s_get (l : List Int) (j : Nat) (hj : j < l.length) : (u8s l)[j]? = some (.int .u8 (l[j])) := by simp [u8s, hj]
theorem u8s_len (l : List Int) : (u8s l).length = l.length := by simp [u8s]
theorem u8s_append (a b : List Int) : u8s (a ++ b) = u8s a ++ u8s b := by simp [u8s]
theorem u8s_take (l : List Int) (n : Nat) : u8s (l.take n) = (u8s l).take n := by simp [u8s]
theorem u8s_drop (l : List Int) (n : Nat) : u8s (l.drop n) = (u8s l).drop n := by simp [u8s]
theorem u8s_one (l : List Int) : ∀ v ∈ u8s l, v.oneCell' = true := by
  intro v hv
  simp only [u8s, List.mem_map] at hv
  obtain ⟨b, _, rfl⟩ := hv
  rfl

end Go.Proofs.YtheiaebmemcbhaaDoor
