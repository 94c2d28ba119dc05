/- What a cache is: its slots, and how they lie in memory. -/
import Derived.Test.YthkcnihmfeilgaaRwSlot
import Derived.Test.YthkcnihmfeilgaaDkSpun
namespace Go.Proofs.Ythkcnihmfeilgaa
open Go.RowKit

/-- A slot: of which sector, where its bytes lie, which they are, and whether they must be written yet. -/
structure Sl where
  n : Nat
  v : Value
  D : List Int
  d : Bool
def sl3 (x : Sl) : List Value := [.int .i64 (x.n : Int), x.v, .bool x.d]
def scells (E : List Sl) : List Value := E.flatMap sl3
theorem scells_len (l : List Sl) : (scells l).length = l.length * 3 := by
  induction l with
  | nil => rfl
  | cons x l ih => simp only [scells, sl3, List.flatMap_cons, List.length_append, List.length_cons, List.length_nil] at *; omega
theorem scells_append (a b : List Sl) : scells (a ++ b) = scells a ++ scells b := by simp [scells]
theorem scells_cons (x : Sl) (b : List Sl) : scells (x :: b) = sl3 x ++ scells b := by simp [scells]
theorem scells_split (l : List Sl) (k : Nat) : (scells l).take (k * 3) = scells (l.take k) ∧ (scells l).drop (k * 3) = scells (l.drop k) := by
  by_cases hk : k ≤ l.length
  · have e : scells l = scells (l.take k) ++ scells (l.drop k) := by rw [← scells_append, List.take_append_drop]
    have hl : (scells (l.take k)).length = k * 3 := by rw [scells_len, List.length_take]; omega
    constructor
    · rw [e, ← hl, List.take_left]
    · rw [e, ← hl, List.drop_left]
  · have := scells_len l
    rw [List.take_of_length_le (l := l) (by omega), List.drop_of_length_le (l := l) (by omega), List.take_of_length_le (by omega), List.drop_of_length_le (by omega)]
    exact ⟨rfl, rfl⟩
theorem scells_get (l : List Sl) (k : Nat) (hk : k < l.length) : (scells l)[k * 3]? = some (.int .i64 (l[k].n : Int)) ∧ (scells l)[k * 3 + 1]? = some l[k].v ∧ (scells l)[k * 3 + 2]? = some (.bool l[k].d) := by
  have e : scells l = scells (l.take k) ++ (.int .i64 (l[k].n : Int) :: l[k].v :: .bool l[k].d :: scells (l.drop (k + 1))) := by
    conv => lhs; rw [← List.take_append_drop k l, List.drop_eq_getElem_cons hk, scells_append, scells_cons]
    rfl
  have hl : (scells (l.take k)).length = k * 3 := by rw [scells_len, List.length_take]; omega
  rw [e]
  refine ⟨?_, ?_, ?_⟩
  · rw [List.getElem?_append_right (by omega), hl, show k * 3 - k * 3 = 0 by omega]; rfl
  · rw [List.getElem?_append_right (by omega), hl, show k * 3 + 1 - k * 3 = 1 by omega]; rfl
  · rw [List.getElem?_append_right (by omega), hl, show k * 3 + 2 - k * 3 = 2 by omega]; rfl

/-- Bytes in a block of A. -/
def DatAt (w : World) (A : Nat → Prop) (v : Value) (D : List Int) : Prop :=
  ∃ g cap cur, v = .slice (some ⟨g, 0, none⟩) 64 cap ∧ D.length = 64 ∧ A g ∧ w.heap[g]? = some (.cells cur 5 (0, 0)) ∧ cur.toList.take 64 = u8s D
theorem DatAt.keep {w w' : World} {A A' : Nat → Prop} {v : Value} {D : List Int} (h : DatAt w A v D) (hk : ∀ i c, A i → w.heap[i]? = some (.cells c 5 (0, 0)) → w'.heap[i]? = w.heap[i]?) (hA : ∀ i, A i → A' i) : DatAt w' A' v D := by
  obtain ⟨g, cap, cur, rfl, h1, h2, h3, h4⟩ := h
  exact ⟨g, cap, cur, rfl, h1, hA g h2, (hk g cur h2 h3).trans h3, h4⟩
theorem DatAt.bytes {w : World} {A : Nat → Prop} {v : Value} {D : List Int} (h : DatAt w A v D) : BytesAt w v D := by
  obtain ⟨g, cap, cur, rfl, h1, h2, h3, h4⟩ := h
  exact bytes_of_row h1 h3 h4
theorem DatAt.one {w : World} {A : Nat → Prop} {v : Value} {D : List Int} (h : DatAt w A v D) : v.oneCell' = true := by
  obtain ⟨g, cap, cur, rfl, _⟩ := h
  rfl

/-- At gc lies a cache over the disk d: the slots E of the sectors below k, in blocks of A. -/
structure CLies (w : World) (gc : Nat) (d lv : Value) (slots : Nat) (E : List Sl) (k : Nat) (A : Nat → Prop) : Prop where
  hc : w.heap[gc]? = some (.cells #[d, .int .i64 (slots : Int), lv] 85 (0, 0))
  own : w.ownsRow 0 82 3 lv E.length (scells E)
  aown : ∀ b, lv.ownBlock = some b → A b
  agc : A gc
  dat : ∀ x ∈ E, DatAt w A x.v x.D
  ns : ∀ x ∈ E, x.n < k
  fin : ∀ i, A i → i < w.heap.size
  s0 : 1 ≤ slots
  s1 : slots ≤ 32
  len : E.length ≤ slots

section
variable {w w' : World} {gc : Nat} {d lv : Value} {slots : Nat} {E : List Sl} {k : Nat} {A : Nat → Prop}
theorem CLies.ones (h : CLies w gc d lv slots E k A) : ∀ u ∈ scells E, u.oneCell' = true := by
  intro u hu
  unfold scells at hu
  obtain ⟨x, hx, hu⟩ := List.mem_flatMap.1 hu
  have := (h.dat x hx).one
  simp [sl3] at hu
  rcases hu with rfl | rfl | rfl
  · rfl
  · exact this
  · rfl
theorem CLies.keep (h : CLies w gc d lv slots E k A) (hk : ∀ i, A i → w'.heap[i]? = w.heap[i]?) (hz : w.heap.size ≤ w'.heap.size) : CLies w' gc d lv slots E k A :=
  { h with
    hc := (hk _ h.agc).trans h.hc
    own := owns_keep h.own fun b hb => hk b (h.aown b hb)
    dat := fun x hx => (h.dat x hx).keep (fun i _ hi _ => hk i hi) fun _ hi => hi
    fin := fun i hi => Nat.lt_of_lt_of_le (h.fin i hi) hz }
theorem CLies.keeps (h : CLies w gc d lv slots E k A) {G : Nat → Prop} (hk : Keeps G w w') (hG : ∀ i, A i → ¬ G i) : CLies w' gc d lv slots E k A :=
  h.keep (fun i hi => hk.block i (h.fin i hi) (hG i hi)) hk.size
theorem CLies.below (h : CLies w gc d lv slots E k A) (hb : Below w.heap.size w w') : CLies w' gc d lv slots E k A :=
  h.keeps (G := fun _ => False) (Keeps.of_below hb) (fun _ _ h => h)
theorem CLies.more (h : CLies w gc d lv slots E k A) {A' : Nat → Prop} (hA : ∀ i, A i → A' i) (hf : ∀ i, A' i → i < w.heap.size) : CLies w gc d lv slots E k A' :=
  { h with
    aown := fun b hb => hA b (h.aown b hb)
    agc := hA _ h.agc
    dat := fun x hx => (h.dat x hx).keep (fun _ _ _ _ => rfl) hA
    fin := hf }
theorem CLies.c0 (h : CLies w gc d lv slots E k A) : w.cell? ⟨gc, 0, none⟩ = some d := cell_of_row _ _ _ _ _ _ h.hc
theorem CLies.c1 (h : CLies w gc d lv slots E k A) : w.cell? ⟨gc, 1, none⟩ = some (.int .i64 (slots : Int)) := cell_of_row _ _ _ _ _ _ h.hc
theorem CLies.c2 (h : CLies w gc d lv slots E k A) : w.cell? ⟨gc, 2, none⟩ = some lv := cell_of_row _ _ _ _ _ _ h.hc
theorem CLies.z (h : CLies w gc d lv slots E k A) (i : Nat) : w.frozen? ⟨gc, i, none⟩ = false := by simp [World.frozen?, h.hc]
theorem CLies.ne (h : CLies w gc d lv slots E k A) : lv.ownBlock ≠ some gc := own_ne h.own h.hc (by decide)
/-- The slice of slots was turned (RowDid), and stored: the slots are E' now. -/
theorem CLies.store (h : CLies w gc d lv slots E k A) {w1 : World} {lv' : Value} {E' : List Sl} (hk : Keeps (fun i => lv.ownBlock = some i) w w1) (hown : w1.ownsRow 0 82 3 lv' E'.length (scells E'))
    (hb : ∀ b, lv'.ownBlock = some b → lv.ownBlock = some b ∨ w.heap.size ≤ b) (hd : ∀ x ∈ E', x.n < k ∧ DatAt w1 A x.v x.D) (hl : E'.length ≤ slots) :
    CLies (w1.setCell ⟨gc, 2, none⟩ lv') gc d lv' slots E' k (fun i => A i ∨ (w.heap.size ≤ i ∧ i < w1.heap.size)) ∧ Keeps A w (w1.setCell ⟨gc, 2, none⟩ lv') := by
  have hc1 : w1.heap[gc]? = some (.cells #[d, .int .i64 (slots : Int), lv] 85 (0, 0)) := (hk.block gc (h.fin _ h.agc) h.ne).trans h.hc
  have hne : lv'.ownBlock ≠ some gc := own_ne hown hc1 (by decide)
  have other : ∀ i, i ≠ gc → (w1.setCell ⟨gc, 2, none⟩ lv').heap[i]? = w1.heap[i]? := fun i hi => Below.heap_setCell w1 _ _ i hi
  have hsz : (w1.setCell ⟨gc, 2, none⟩ lv').heap.size = w1.heap.size := by simp [World.setCell]
  constructor
  · exact { h with
      hc := by have := heap_setCell_at (i := 2) hc1 lv'; simpa using this
      own := owns_keep hown fun b hb => other b (fun e => hne (by rw [hb, e]))
      aown := fun b h2 => by
        rcases hb b h2 with h3 | h3
        · exact Or.inl (h.aown b h3)
        · exact Or.inr ⟨h3, (hown.lt b h2).2⟩
      agc := Or.inl h.agc
      dat := fun x hx => (hd x hx).2.keep (fun i c _ hc => other i (ne_of_type hc hc1 (by decide))) fun _ hi => Or.inl hi
      ns := fun x hx => (hd x hx).1
      fin := fun i hi => by
        rw [hsz]
        rcases hi with hi | hi
        · exact Nat.lt_of_lt_of_le (h.fin i hi) hk.size
        · exact hi.2
      len := hl }
  · refine Keeps.step (Keeps.mono hk fun i _ hi => h.aown i hi) (Keeps.setCell h.agc _)
end

end Go.Proofs.Ythkcnihmfeilgaa
