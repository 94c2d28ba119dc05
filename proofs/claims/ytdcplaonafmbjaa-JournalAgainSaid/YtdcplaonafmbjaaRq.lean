/- How requests lie in memory. -/
import Derived.Test.YtdcplaonafmbjaaLiftP
import Derived.Test.YtdcplaonafmbjaaDkSpun
namespace Go.Proofs.Ytdcplaonafmbjaa
open Go.RowKit

/-- A request: its sector, where its bytes lie, which they are, and whether it is a barrier. -/
structure Rq where
  n : Nat
  v : Value
  D : List Int
  b : Bool
def rab (x : Rq) : Rb := (x.n, x.D, x.b)
def rq3 (x : Rq) : List Value := [.int .i64 (x.n : Int), x.v, .bool x.b]
def rcells (E : List Rq) : List Value := E.flatMap rq3
theorem rcells_len (l : List Rq) : (rcells l).length = l.length * 3 := by
  induction l with
  | nil => rfl
  | cons x l ih => simp only [rcells, rq3, List.flatMap_cons, List.length_append, List.length_cons, List.length_nil] at *; omega
theorem rcells_append (a b : List Rq) : rcells (a ++ b) = rcells a ++ rcells b := by simp [rcells]
theorem rcells_cons (x : Rq) (b : List Rq) : rcells (x :: b) = rq3 x ++ rcells b := by simp [rcells]
theorem rcells_split (l : List Rq) (k : Nat) : (rcells l).take (k * 3) = rcells (l.take k) ∧ (rcells l).drop (k * 3) = rcells (l.drop k) := by
  by_cases hk : k ≤ l.length
  · have e : rcells l = rcells (l.take k) ++ rcells (l.drop k) := by rw [← rcells_append, List.take_append_drop]
    have hl : (rcells (l.take k)).length = k * 3 := by rw [rcells_len, List.length_take]; omega
    constructor
    · rw [e, ← hl, List.take_left]
    · rw [e, ← hl, List.drop_left]
  · have := rcells_len l
    rw [List.take_of_length_le (l := l) (by omega), List.drop_of_length_le (l := l) (by omega), List.take_of_length_le (by omega), List.drop_of_length_le (by omega)]
    exact ⟨rfl, rfl⟩
theorem rcells_get (l : List Rq) (k : Nat) (hk : k < l.length) : (rcells l)[k * 3]? = some (.int .i64 (l[k].n : Int)) ∧ (rcells l)[k * 3 + 1]? = some l[k].v ∧ (rcells l)[k * 3 + 2]? = some (.bool l[k].b) := by
  have e : rcells l = rcells (l.take k) ++ (.int .i64 (l[k].n : Int) :: l[k].v :: .bool l[k].b :: rcells (l.drop (k + 1))) := by
    conv => lhs; rw [← List.take_append_drop k l, List.drop_eq_getElem_cons hk, rcells_append, rcells_cons]
    rfl
  have hl : (rcells (l.take k)).length = k * 3 := by rw [rcells_len, List.length_take]; omega
  rw [e]
  refine ⟨?_, ?_, ?_⟩
  · rw [List.getElem?_append_right (by omega), hl, show k * 3 - k * 3 = 0 by omega]; rfl
  · rw [List.getElem?_append_right (by omega), hl, show k * 3 + 1 - k * 3 = 1 by omega]; rfl
  · rw [List.getElem?_append_right (by omega), hl, show k * 3 + 2 - k * 3 = 2 by omega]; rfl

/-- A request whose bytes can be read. -/
def RqOk (w : World) (x : Rq) : Prop := (x.b = true ∧ x.n = 0 ∧ x.v = .slice none 0 0 ∧ x.D = []) ∨ (x.b = false ∧ x.n < 256 ∧ BytesAt w x.v x.D ∧ x.D.length = 64)
def RqsAt (w : World) (v : Value) (L : List Rb) : Prop := ∃ E : List Rq, E.map rab = L ∧ RowAt w v 3 E.length (rcells E) ∧ ∀ x ∈ E, RqOk w x
theorem RqOk.below {w w' : World} {x : Rq} (h : RqOk w x) (hb : Below w.heap.size w w') : RqOk w' x := by
  rcases h with h | ⟨h1, h2, h3, h4⟩
  · exact Or.inl h
  · exact Or.inr ⟨h1, h2, RowAt.below h3 hb, h4⟩
theorem RqsAt.below {w w' : World} {v : Value} {L : List Rb} (h : RqsAt w v L) (hb : Below w.heap.size w w') : RqsAt w' v L := by
  obtain ⟨E, he, h1, h2⟩ := h
  exact ⟨E, he, RowAt.below h1 hb, fun x hx => (h2 x hx).below hb⟩

/-- .. whose bytes lie in a block from base on. -/
def RqNew (w : World) (base : Nat) (x : Rq) : Prop := (x.b = true ∧ x.n = 0 ∧ x.v = .slice none 0 0 ∧ x.D = []) ∨
  (x.b = false ∧ x.n < 256 ∧ x.D.length = 64 ∧ ∃ g cap cur, x.v = .slice (some ⟨g, 0, none⟩) 64 cap ∧ (base ≤ g ∧ 64 ≤ cap) ∧ w.heap[g]? = some (.cells cur 5 (0, 0)) ∧ cur.toList.take 64 = u8s x.D)
def RqsOwn (w : World) (base : Nat) (v : Value) (L : List Rb) : Prop := ∃ E : List Rq, E.map rab = L ∧ w.ownsRow base 81 3 v E.length (rcells E) ∧ ∀ x ∈ E, RqNew w base x
theorem RqNew.ok {w : World} {base : Nat} {x : Rq} (h : RqNew w base x) : RqOk w x := by
  rcases h with h | ⟨h1, h2, h3, g, cap, cur, h4, h5, h6, h7⟩
  · exact Or.inl h
  · exact Or.inr ⟨h1, h2, by rw [h4]; exact bytes_of_row h3 h6 h7, h3⟩
theorem RqNew.one {w : World} {base : Nat} {x : Rq} (h : RqNew w base x) : x.v.oneCell' = true := by
  rcases h with ⟨_, _, h, _⟩ | ⟨_, _, _, g, cap, cur, h4, _⟩
  · rw [h]; rfl
  · rw [h4]; rfl
theorem RqNew.mono {w : World} {base base' : Nat} {x : Rq} (h : RqNew w base x) (hb : base' ≤ base) : RqNew w base' x := by
  rcases h with h | ⟨h1, h2, h3, g, cap, cur, h4, h5, h6, h7⟩
  · exact Or.inl h
  · exact Or.inr ⟨h1, h2, h3, g, cap, cur, h4, ⟨Nat.le_trans hb h5.1, h5.2⟩, h6, h7⟩
theorem RqNew.keep {w w' : World} {base : Nat} {x : Rq} (h : RqNew w base x) (hk : ∀ i c, base ≤ i → w.heap[i]? = some (.cells c 5 (0, 0)) → w'.heap[i]? = w.heap[i]?) : RqNew w' base x := by
  rcases h with h | ⟨h1, h2, h3, g, cap, cur, h4, h5, h6, h7⟩
  · exact Or.inl h
  · exact Or.inr ⟨h1, h2, h3, g, cap, cur, h4, h5, (hk g cur h5.1 h6).trans h6, h7⟩
theorem RqsOwn.at {w : World} {base : Nat} {v : Value} {L : List Rb} (h : RqsOwn w base v L) : RqsAt w v L := by
  obtain ⟨E, he, h1, h2⟩ := h
  exact ⟨E, he, RowAt.of_owns h1, fun x hx => (h2 x hx).ok⟩
theorem RqsOwn.keeps {w w' : World} {base : Nat} {v : Value} {L : List Rb} {F : Nat → Prop} (h : RqsOwn w base v L) (hk : Keeps F w w') (hF : ∀ i, base ≤ i → i < w.heap.size → ¬ F i) : RqsOwn w' base v L := by
  obtain ⟨E, he, h1, h2⟩ := h
  have hlt := h1.lt
  exact ⟨E, he, owns_keep h1 fun b hb => hk.block b (hlt b hb).2 (hF b (hlt b hb).1 (hlt b hb).2), fun x hx => (h2 x hx).keep fun i c hi hc => hk.block i (heap_lt hc) (hF i hi (heap_lt hc))⟩
theorem RqsOwn.below {w w' : World} {base : Nat} {v : Value} {L : List Rb} (h : RqsOwn w base v L) (hb : Below w.heap.size w w') : RqsOwn w' base v L :=
  h.keeps (F := fun _ => False) (Keeps.of_below hb) fun _ _ _ h => h
theorem RqsOwn.mono {w : World} {base base' : Nat} {v : Value} {L : List Rb} (h : RqsOwn w base v L) (hb : base' ≤ base) : RqsOwn w base' v L := by
  obtain ⟨E, he, ⟨h1, h2⟩, h3⟩ := h
  refine ⟨E, he, ⟨h1, ?_⟩, fun x hx => (h3 x hx).mono hb⟩
  rcases h2 with h2 | ⟨g, cap, cur, hv, hg, r⟩
  · exact Or.inl h2
  · exact Or.inr ⟨g, cap, cur, hv, Nat.le_trans hb hg, r⟩
theorem rqs_len {E : List Rq} {L : List Rb} (h : E.map rab = L) : E.length = L.length := by rw [← h, List.length_map]
theorem rqs_ones {w : World} {base : Nat} {E : List Rq} (h : ∀ x ∈ E, RqNew w base x) : ∀ u ∈ rcells E, u.oneCell' = true := by
  intro u hu
  unfold rcells at hu
  obtain ⟨x, hx, hu⟩ := List.mem_flatMap.1 hu
  have := (h x hx).one
  simp [rq3] at hu
  rcases hu with rfl | rfl | rfl
  · rfl
  · exact this
  · rfl

end Go.Proofs.Ytdcplaonafmbjaa
