/- slices.Insert of one row: any; quota.Set. -/
import Derived.Test.YtneknlbmiofmlaaQuota11
namespace Go.Proofs.Ytneknlbmiofmlaa
open Go.RowKit

theorem insert_any (B i : Nat) (v : Value) (l : List (Int × Int)) (x y : Int) (h : Nat) (w : World) (hBw : B ≤ w.heap.size) (hl : l.length ≤ 1000000) (hi : i ≤ l.length) (hown : w.ownsRow B 63 2 v l.length (pairs l))
    (hh : w.heap[h]? = some (.cells #[.int .i64 x, .int .i64 y] 63 (0, 0))) (hne : ∀ g, v.ownBlock = some g → h ≠ g) :
    Calls Try.prog 46 #[v, .int .i64 (i : Int), .slice (some ⟨h, 0, none⟩) 1 1] w (RowsRes B (l.take i ++ [(x, y)] ++ l.drop i) w) := by
  by_cases he : i = l.length
  · subst he
    rw [List.take_of_length_le (Nat.le_refl _), List.drop_of_length_le (Nat.le_refl _), List.append_nil]
    exact insert_end B v l x y h w hBw hl hown hh
  · have hlt : i < l.length := by omega
    obtain ⟨hlen, ⟨_, h0⟩ | ⟨g, cap, cur, rfl, hg, hc, hn, hm, hs, ht⟩⟩ := hown
    · omega
    · by_cases hroom : l.length + 1 ≤ cap
      · exact insert_room B g cap i l.length cur l x y h w hg rfl hl hlt hroom hm (hne g rfl) hc hs ht hh
      · have hcap : cap = l.length := by omega
        subst hcap
        exact insert_full B g i l.length cur l x y h w hBw rfl hl hlt (heap_lt hc) (heap_lt hh) hc hs ht hh

/-- Where a user's row stands among the rows of others. -/
def posQ : List (Int × Int) → Int → Nat
  | [], _ => 0
  | x :: l, u => if x.1 < u then posQ l u + 1 else 0
theorem posQ_le (l : List (Int × Int)) (u : Int) : posQ l u ≤ l.length := by
  induction l with
  | nil => exact Nat.le_refl _
  | cons x l ih => unfold posQ; split <;> simp <;> omega
theorem posQ_drop (l : List (Int × Int)) (u : Int) (k : Nat) (hk : k < l.length) : posQ (l.drop k) u = if l[k].1 < u then posQ (l.drop (k + 1)) u + 1 else 0 := by
  rw [List.drop_eq_getElem_cons hk]
  rfl
/-- The rows when a limit is set. -/
def setQ (l : List (Int × Int)) (u lim : Int) : List (Int × Int) :=
  if lim = -1 then othQ l u else (othQ l u).take (posQ (othQ l u) u) ++ [(u, lim)] ++ (othQ l u).drop (posQ (othQ l u) u)
def fullQ (l : List (Int × Int)) (u lim : Int) : Bool := decide (lim ≠ -1) && decide ((othQ l u).length = 20)

def SetRes (l : List (Int × Int)) (u lim : Int) (w : World) (e : Ending) (w' : World) : Prop :=
  (fullQ l u lim = true → e = .returned (.tuple #[.slice none 0 0, .int .i64 6])) ∧
  (fullQ l u lim = false → ∃ v, e = .returned (.tuple #[v, .int .i64 0]) ∧ w'.ownsRow w.heap.size 63 2 v (setQ l u lim).length (pairs (setQ l u lim))) ∧ Below w.heap.size w w'

theorem othQ_le' (l : List (Int × Int)) (u : Int) : (othQ l u).length ≤ l.length := List.length_filter_le _ _

theorem owns_weaken {w : World} {b b' : Nat} {e : TypeId} {size : Nat} {v : Value} {n : Nat} {xs : List Value} (h : w.ownsRow b e size v n xs) (hb : b' ≤ b) : w.ownsRow b' e size v n xs := by
  obtain ⟨h1, h2 | ⟨g, cap, cur, hv, hg, r⟩⟩ := h
  · exact ⟨h1, Or.inl h2⟩
  · exact ⟨h1, Or.inr ⟨g, cap, cur, hv, Nat.le_trans hb hg, r⟩⟩

end Go.Proofs.Ytneknlbmiofmlaa
