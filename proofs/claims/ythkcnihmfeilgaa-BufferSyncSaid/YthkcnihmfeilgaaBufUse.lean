/- use: a sector comes ahead of all. -/
import Derived.Test.YthkcnihmfeilgaaBufFind
import Derived.Test.YthkcnihmfeilgaaDkWritten
import Derived.Deep.QuietTactic
import Derived.BigQuiet
import Derived.Deep.DeepCutAuto
namespace Go.Proofs.Ythkcnihmfeilgaa
open Go.RowKit

theorem below_dN {B : Nat} {a w : World} (h : Below B a w) (n : Nat) : Below B a (w.drewN n) := ⟨h.os, h.tape, h.output, h.size, h.block⟩
/-- Without the slot of a sector. -/
def outE (E : List Sl) (m : Nat) : List Sl := match idxO E m with | some k => E.take k ++ E.drop (k + 1) | none => E
theorem outE_some {E : List Sl} {m k : Nat} (h : idxO E m = some k) : outE E m = E.take k ++ E.drop (k + 1) := by unfold outE; rw [h]
theorem outE_none {E : List Sl} {m : Nat} (h : idxO E m = none) : outE E m = E := by unfold outE; rw [h]
theorem outE_mem {E : List Sl} {m : Nat} : ∀ x ∈ outE E m, x ∈ E := by
  intro x hx
  cases h : idxO E m with
  | none => rw [outE_none h] at hx; exact hx
  | some k =>
    rw [outE_some h] at hx
    rcases List.mem_append.1 hx with hx | hx
    · exact List.mem_of_mem_take hx
    · exact List.mem_of_mem_drop hx
theorem outE_le (E : List Sl) (m : Nat) : (outE E m).length ≤ E.length := by
  cases h : idxO E m with
  | none => rw [outE_none h]; exact Nat.le_refl _
  | some k => rw [outE_some h]; simp; omega

/-- A cache over a disk. -/
def BufAt (w : World) (c d : Value) (slots : Nat) (E : List Sl) (st : Dk) (k : Nat) (A F : Nat → Prop) : Prop :=
  ∃ gc lv, c = .pointer (some ⟨gc, 0, none⟩) ∧ CLies w gc d lv slots E k A ∧ DiskAt w d st k F ∧ ∀ i, A i → ¬ F i
/-- What came of it: all else is as it was. -/
def BufDid (c d : Value) (slots : Nat) (E : List Sl) (st : Dk) (k : Nat) (A F : Nat → Prop) (w w' : World) : Prop :=
  ∃ A' F', BufAt w' c d slots E st k A' F' ∧ (∀ i, A' i → A i ∨ w.heap.size ≤ i) ∧ (∀ i, F' i → F i ∨ w.heap.size ≤ i) ∧ Keeps (fun i => A i ∨ F i) w w'
theorem BufDid.trans {c d : Value} {slots : Nat} {E : List Sl} {st : Dk} {k : Nat} {A F A1 F1 : Nat → Prop} {w w1 w2 : World} (h0 : Keeps (fun i => A i ∨ F i) w w1) (hA : ∀ i, A1 i → A i ∨ w.heap.size ≤ i) (hF : ∀ i, F1 i → F i ∨ w.heap.size ≤ i)
    (h : BufDid c d slots E st k A1 F1 w1 w2) : BufDid c d slots E st k A F w w2 := by
  obtain ⟨A', F', h1, h2, h3, h4⟩ := h
  refine ⟨A', F', h1, fun i hi => ?_, fun i hi => ?_, h0.trans h4 ?_⟩
  · rcases h2 i hi with h | h
    · exact hA i h
    · exact Or.inr (Nat.le_trans h0.size h)
  · rcases h3 i hi with h | h
    · exact hF i h
    · exact Or.inr (Nat.le_trans h0.size h)
  · rintro i (hi | hi)
    · rcases hA i hi with h | h
      · exact Or.inl (Or.inl h)
      · exact Or.inr h
    · rcases hF i hi with h | h
      · exact Or.inl (Or.inr h)
      · exact Or.inr h
theorem BufAt.below {w w' : World} {c d : Value} {slots : Nat} {E : List Sl} {st : Dk} {k : Nat} {A F : Nat → Prop} (h : BufAt w c d slots E st k A F) (hb : Below w.heap.size w w') : BufAt w' c d slots E st k A F := by
  obtain ⟨gc, lv, hc, h1, h2, h3⟩ := h
  exact ⟨gc, lv, hc, h1.below hb, h2.below hb, h3⟩
theorem BufAt.fin {w : World} {c d : Value} {slots : Nat} {E : List Sl} {st : Dk} {k : Nat} {A F : Nat → Prop} (h : BufAt w c d slots E st k A F) : (∀ i, A i → i < w.heap.size) ∧ ∀ i, F i → i < w.heap.size := by
  obtain ⟨gc, lv, hc, h1, h2, h3⟩ := h
  exact ⟨h1.fin, h2.fin⟩

/-- The slice of slots was turned, and stored: the disk is as it was. -/
theorem BufAt.store {w : World} {gc : Nat} {d lv : Value} {slots : Nat} {E : List Sl} {st : Dk} {k : Nat} {A F : Nat → Prop} (h : CLies w gc d lv slots E k A) (hd : DiskAt w d st k F) (hAF : ∀ i, A i → ¬ F i) {w1 : World} {lv' : Value} {E' : List Sl} (hk : Keeps (fun i => lv.ownBlock = some i) w w1) (hown : w1.ownsRow 0 82 3 lv' E'.length (scells E'))
    (hb : ∀ b, lv'.ownBlock = some b → lv.ownBlock = some b ∨ w.heap.size ≤ b) (hdt : ∀ x ∈ E', x.n < k ∧ DatAt w1 A x.v x.D) (hl : E'.length ≤ slots) :
    ∃ A', CLies (w1.setCell ⟨gc, 2, none⟩ lv') gc d lv' slots E' k A' ∧ DiskAt (w1.setCell ⟨gc, 2, none⟩ lv') d st k F ∧ (∀ i, A' i → ¬ F i) ∧ (∀ i, A' i → A i ∨ w.heap.size ≤ i) ∧ (∀ i, A i → A' i) ∧ Keeps A w (w1.setCell ⟨gc, 2, none⟩ lv') ∧ ∀ v D, DatAt w A v D → DatAt (w1.setCell ⟨gc, 2, none⟩ lv') A' v D := by
  have hc1 : w1.heap[gc]? = some (.cells #[d, .int .i64 (slots : Int), lv] 85 (0, 0)) := (hk.block gc (h.fin _ h.agc) h.ne).trans h.hc
  obtain ⟨h1, h2⟩ := h.store hk hown hb hdt hl
  refine ⟨_, h1, hd.keep h2 fun i hi ha => hAF i ha hi, ?_, fun i hi => hi.imp id fun h => h.1, fun i hi => Or.inl hi, h2, fun v D hvd => hvd.keep (fun i c hi hc => ?_) fun _ h => Or.inl h⟩
  rotate_left
  · have e := hk.block i (h.fin i hi) (fun e => own_ne h.own hc (by decide) e)
    exact (Below.heap_setCell w1 _ _ i (ne_of_type (e.trans hc) hc1 (by decide))).trans e
  rintro i (hi | hi) hf
  · exact hAF i hi hf
  · have := hd.fin i hf; omega

theorem owns_take {w : World} {base : Nat} {e : TypeId} {size n cap g m : Nat} {xs : List Value} (h : w.ownsRow base e size (.slice (some ⟨g, 0, none⟩) n cap) n xs) (hm : m ≤ n) : w.ownsRow base e size (.slice (some ⟨g, 0, none⟩) m cap) m (xs.take (m * size)) := by
  obtain ⟨h1, ⟨hv, _⟩ | ⟨g', cap', cur, hv, h2, h3, h4, h5, h6, h7⟩⟩ := h
  · cases hv
  · cases hv
    have hmn : m * size ≤ n * size := Nat.mul_le_mul_right _ hm
    refine ⟨by rw [List.length_take, h1]; omega, Or.inr ⟨g, cap, cur, rfl, h2, h3, by omega, h5, h6, ?_⟩⟩
    rw [← h7, List.take_take]
    congr 1
    omega

/-- A DatAt of the cache is kept where only the slice of slots is turned. -/
theorem CLies.dat_row {w w1 : World} {gc : Nat} {d lv : Value} {slots : Nat} {E : List Sl} {k : Nat} {A : Nat → Prop} (h : CLies w gc d lv slots E k A) (hk : Keeps (fun i => lv.ownBlock = some i) w w1) {v : Value} {D : List Int} (hd : DatAt w A v D) : DatAt w1 A v D :=
  hd.keep (fun i c hi hc => hk.block i (h.fin i hi) (fun e => own_ne h.own hc (by decide) e)) fun _ h => h

/-- The first part of use: the slot of the sector goes. -/
def Gone (gc : Nat) (d : Value) (slots : Nat) (E1 : List Sl) (st : Dk) (k : Nat) (A F : Nat → Prop) (w wx : World) : Prop :=
  ∃ lv A1, CLies wx gc d lv slots E1 k A1 ∧ DiskAt wx d st k F ∧ (∀ i, A1 i → ¬ F i) ∧ (∀ i, A1 i → A i ∨ w.heap.size ≤ i) ∧ (∀ i, A i → A1 i) ∧ Keeps A w wx ∧ ∀ v D, DatAt w A v D → DatAt wx A1 v D

theorem gone_delete {w w0 : World} {gc : Nat} {d lv : Value} {slots : Nat} {E : List Sl} {st : Dk} {k m i : Nat} {A F : Nat → Prop} (h : CLies w gc d lv slots E k A) (hd : DiskAt w d st k F) (hAF : ∀ i, A i → ¬ F i) (hi : idxO E m = some i) (h0 : Below w0.heap.size w0 w) (hz0 : ∀ i, A i → i < w0.heap.size)
    {v : Value} {w1 : World} (hr : RowDid 82 3 lv (E.length - 1) ((scells E).take (i * 3) ++ (scells E).drop ((i + 1) * 3)) w (.returned v) w1) : Gone gc d slots (outE E m) st k A F w0 (w1.setCell ⟨gc, 2, none⟩ v) := by
  obtain ⟨v', hv, hown, hk, hb⟩ := hr
  cases hv
  have hil : i < E.length := by
    unfold idxO at hi
    rw [List.findIdx?_eq_some_iff_getElem] at hi
    exact hi.1
  rw [(scells_split E i).1, (scells_split E (i + 1)).2, ← scells_append, ← outE_some hi] at hown
  have hl : (outE E m).length = E.length - 1 := by rw [outE_some hi]; simp; omega
  rw [← hl] at hown
  obtain ⟨A1, a1, a2, a3, a4, a5, a6, a7⟩ := BufAt.store h hd hAF hk hown hb (fun x hx => ⟨h.ns x (outE_mem x hx), h.dat_row hk (h.dat x (outE_mem x hx))⟩) (by rw [hl]; have := h.len; omega)
  exact ⟨_, A1, a1, a2, a3, fun i hi => (a4 i hi).imp id fun h => Nat.le_trans h0.size h, a5, (Keeps.of_below h0).trans a6 fun i hi => Or.inl hi, fun v D hvd => a7 v D (hvd.keep (fun i _ hi _ => h0.block i (hz0 i hi)) fun _ h => h)⟩

/-- What is there between: the cache lies there, and so does the disk, and all else is as it was in w. -/
def Mid (gc : Nat) (d : Value) (slots : Nat) (E : List Sl) (st : Dk) (k : Nat) (A F : Nat → Prop) (w wx : World) : Prop :=
  ∃ lv A1 F1, CLies wx gc d lv slots E k A1 ∧ DiskAt wx d st k F1 ∧ (∀ i, A1 i → ¬ F1 i) ∧ (∀ i, A1 i → A i ∨ w.heap.size ≤ i) ∧ (∀ i, F1 i → F i ∨ w.heap.size ≤ i) ∧ (∀ i, A i → A1 i) ∧ Keeps (fun i => A i ∨ F i) w wx ∧ ∀ v D, DatAt w A v D → DatAt wx A1 v D
theorem Mid.below {gc : Nat} {d : Value} {slots : Nat} {E : List Sl} {st : Dk} {k : Nat} {A F : Nat → Prop} {w w1 w2 : World} (h : Mid gc d slots E st k A F w w1) (hb : Below w1.heap.size w1 w2) : Mid gc d slots E st k A F w w2 := by
  obtain ⟨lv, A1, F1, h1, h2, h3, h4, h5, h6, h7, h8⟩ := h
  exact ⟨lv, A1, F1, h1.below hb, h2.below hb, h3, h4, h5, h6, h7.trans (Keeps.of_below hb (F := fun _ => False)) fun _ h => h.elim, fun v D hvd => (h8 v D hvd).keep (fun i _ hi hc => hb.block i (heap_lt hc)) fun _ h => h⟩
theorem mid_cut {w we : World} {gc g n cp : Nat} {d : Value} {slots : Nat} {E1 : List Sl} {st : Dk} {k : Nat} {A F A1 F1 : Nat → Prop} (h1 : CLies we gc d (.slice (some ⟨g, 0, none⟩) n cp) slots E1 k A1) (hn : n = E1.length) (h2 : DiskAt we d st k F1) (h3 : ∀ i, A1 i → ¬ F1 i)
    (h4 : ∀ i, A1 i → A i ∨ w.heap.size ≤ i) (h5 : ∀ i, F1 i → F i ∨ w.heap.size ≤ i) (h6 : ∀ i, A i → A1 i) (h7 : Keeps (fun i => A i ∨ F i) w we) (h8 : ∀ v D, DatAt w A v D → DatAt we A1 v D) :
    Mid gc d slots E1.dropLast st k A F w (we.setCell ⟨gc, 2, none⟩ (.slice (some ⟨g, 0, none⟩) (n - 1) cp)) := by
  have hown : we.ownsRow 0 82 3 (.slice (some ⟨g, 0, none⟩) (n - 1) cp) (n - 1) ((scells E1).take ((n - 1) * 3)) := by
    have := h1.own
    rw [← hn] at this
    exact owns_take this (by omega)
  rw [(scells_split E1 (n - 1)).1, hn, ← List.dropLast_eq_take] at hown
  have hl : E1.dropLast.length = E1.length - 1 := List.length_dropLast
  rw [← hl] at hown
  have hw := h7.size
  obtain ⟨A2, a1, a2, a3, a4, a5, a6, a7⟩ := BufAt.store h1 h2 h3 (Keeps.refl _ _) (lv' := .slice (some ⟨g, 0, none⟩) (n - 1) cp) (E' := E1.dropLast) (by rw [hn, ← hl]; exact hown) (fun b hb => Or.inl hb) (fun x hx => ⟨h1.ns x (List.dropLast_subset _ hx), h1.dat x (List.dropLast_subset _ hx)⟩) (by have := h1.len; omega)
  refine ⟨_, A2, F1, a1, a2, a3, fun i hi => ?_, h5, fun i hi => a5 i (h6 i hi), h7.trans a6 fun i hi => ?_, fun v D hvd => a7 v D (h8 v D hvd)⟩
  · rcases a4 i hi with h | h
    · exact h4 i h
    · exact Or.inr (Nat.le_trans hw h)
  · rcases h4 i hi with h | h
    · exact Or.inl (Or.inl h)
    · exact Or.inr h

end Go.Proofs.Ythkcnihmfeilgaa
