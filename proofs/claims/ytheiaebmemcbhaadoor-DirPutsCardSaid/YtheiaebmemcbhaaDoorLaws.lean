/- Laws over any program that the walks of this seat use: an element of an array by value; '==' of arrays and structs that hold integers alone. -/
import Derived.WalkKit
import Derived.Deep.WholeRow
namespace Go.Proofs.YtheiaebmemcbhaaDoor
open Go.RowKit
variable {P : Program}

theorem run_isAgg_of {t : TypeId} {d : TypeDesc} (h : P.underlying t = some d) (w : World) : (isAgg t).run P w = .ok (match d with | .struct _ | .array _ _ => true | _ => false) w := by
  unfold isAgg
  rw [Sem.run_bind, run_underlying h w]
  cases d <;> simp

theorem run_sizeOf_of {t : TypeId} {n : Nat} (h : (P.info? t).map (·.size) = some n) (w : World) : (sizeOf t).run P w = .ok n w := by
  cases hq : P.info? t with
  | none => simp [hq] at h
  | some i => simp [hq] at h; simp [sizeOf, typeInfo, hq, h]

theorem run_part_int {t : TypeId} {k : IntKind} (h : P.underlying t = some (.int k)) (cs : Array Value) (off : Nat) (v : Value) (hv : cs[off]? = some v) (w : World) : (part t cs off).run P w = .ok v w := by
  unfold part
  rw [Sem.run_bind, run_isAgg_of h w]
  simp [hv]

theorem run_part_agg {t : TypeId} {d : TypeDesc} (h : P.underlying t = some d) (hd : (match d with | .struct _ | .array _ _ => true | _ => false) = true) {n : Nat} (hn : (P.info? t).map (·.size) = some n) (cs : Array Value) (off : Nat) (w : World) :
    (part t cs off).run P w = .ok (.agg (cs.extract off (off + n))) w := by
  unfold part
  rw [Sem.run_bind, run_isAgg_of h w, hd]
  simp [run_sizeOf_of hn w]

/-- 'a[i]' of an array by value whose elements are integers. -/
theorem run_index_arr (t e : TypeId) (n : Nat) (ke : IntKind) (cs : Array Value) (k : IntKind) (i : Int) (h : P.underlying t = some (.array n e)) (he : P.underlying e = some (.int ke)) (hs : (P.info? e).map (·.size) = some 1)
    (h0 : 0 ≤ i) (h1 : i < n) (v : Value) (hv : cs[i.toNat]? = some v) (w : World) : (Instr.index t (.agg cs) (.int k i)).run P w = .ok v w := by
  simp only [Instr.index, asIntOf, Sem.run_bind, Sem.run_pure, Result.andThen_ok, run_underlying h]
  rw [if_pos ⟨h0, h1⟩]
  simp only [Sem.run_bind, run_sizeOf_of hs, Result.andThen_ok, Nat.mul_one]
  exact run_part_int he cs _ v hv w

/-- A new variable of an array's or a struct's type. -/
theorem wpList_alloc_row {ops : Array Oper} {rest : List Oper} {o : Oper} {a : Act} {w : World} {Q : Exit → Act → World → Prop} (hgd : o.guard = none) (ty : TypeId) (ho : o.op = .alloc ty)
    (Z : Array Value) (hz : ∀ w, (zeroValue ty).run P w = .ok (.agg Z) w)
    (h : wpList P ops Q rest (a.put o.dst (.pointer (some ⟨w.heap.size, 0, none⟩))) (w.alloc (.cells Z ty))) : wpList P ops Q (o :: rest) a w :=
  wpList_plain hgd fun _ hK => by
    unfold Oper.wp execOp
    simp only [ho, Instr.alloc, Sem.run_bind, hz, Result.andThen_ok, newVar, Value.cells]
    exact hK _ _ h

theorem wpList_want {ops : Array Oper} {rest : List Oper} {o : Oper} {a : Act} {w : World} {Q : Exit → Act → World → Prop} (hw : Region.wanted o (yielded ops a.tmps) = true)
    (h : ∀ K : Act → World → Prop, (∀ a w, wpList P ops Q rest a w → K a w) → o.wp P a w K Q) : wpList P ops Q (o :: rest) a w :=
  wpList_step fun K hK => by rw [if_pos hw]; exact h K hK
/-- A whole row out of a block, the operation being guarded. -/
theorem wpList_load_row_g {ops : Array Oper} {rest : List Oper} {o : Oper} {a : Act} {w : World} {Q : Exit → Act → World → Prop} (hw : Region.wanted o (yielded ops a.tmps) = true) (ty : TypeId) (x : Operand) (ho : o.op = .load ty x)
    (g : Nat) (hx : a.eval x = .pointer (some ⟨g, 0, none⟩)) (t : TypeId) (cs : Array Value) (fr : Nat × Nat) (d : TypeDesc) (hg : w.heap[g]? = some (.cells cs t fr))
    (hu : P.underlying ty = some d) (hd : (match d with | .struct _ | .array _ _ => true | _ => false) = true) (hi : (P.info? ty).map (·.size) = some cs.size)
    (h : wpList P ops Q rest (a.put o.dst (.agg cs)) w) : wpList P ops Q (o :: rest) a w :=
  wpList_want hw fun _ hK => wp_load_row ty x ho g hx t cs fr d hg hu hd hi (hK _ _ h)

theorem heap_below {w w' : World} (h : Below w.heap.size w w') {i : Nat} {o : Obj} (hi : w.heap[i]? = some o) : w'.heap[i]? = some o :=
  (h.block _ (Array.getElem?_eq_some_iff.1 hi).1).trans hi
theorem heap_alloc_keep {w : World} {i : Nat} {o : Obj} (hi : w.heap[i]? = some o) (x : Obj) : (w.alloc x).heap[i]? = some o :=
  (Below.heap_alloc w x i (Array.getElem?_eq_some_iff.1 hi).1).trans hi
theorem heap_setRow_keep {w : World} {i : Nat} {o : Obj} (hi : w.heap[i]? = some o) (g : Nat) (cs : Array Value) (hg : i ≠ g) : (w.setRow g cs).heap[i]? = some o :=
  (setRow_other w g i cs hg).trans hi
theorem heap_lt {w : World} {i : Nat} {o : Obj} (hi : w.heap[i]? = some o) : i < w.heap.size := (Array.getElem?_eq_some_iff.1 hi).1
theorem Below.step {w w1 w2 : World} (h : Below w.heap.size w w1) (k : Below w1.heap.size w1 w2) : Below w.heap.size w w2 := h.trans (k.mono h.size)

/-- Cells from an offset on are integers, of the same kinds on both sides. -/
def IntCells (xs ys : Array Value) (off n : Nat) : Prop := ∀ j, j < n → ∃ k a b, xs[off + j]? = some (.int k a) ∧ ys[off + j]? = some (.int k b)
/-- The cells from an offset on are the same. -/
def sameCells (xs ys : Array Value) (off : Nat) : Nat → Bool
  | 0 => true
  | n + 1 => sameCells xs ys off n && (match xs[off + n]?, ys[off + n]? with | some (.int _ a), some (.int _ b) => a == b | _, _ => false)

theorem sameCells_split (xs ys : Array Value) (off m : Nat) : ∀ n, sameCells xs ys off (m + n) = (sameCells xs ys off m && sameCells xs ys (off + m) n)
  | 0 => by simp [sameCells]
  | n + 1 => by
    rw [← Nat.add_assoc]
    simp only [sameCells]
    rw [sameCells_split xs ys off m n, Bool.and_assoc, Nat.add_assoc]

theorem sameCells_extract (xs ys : Array Value) (off m o : Nat) : ∀ n, o + n ≤ m → sameCells (xs.extract off (off + m)) (ys.extract off (off + m)) o n = sameCells xs ys (off + o) n
  | 0, _ => rfl
  | n + 1, h => by
    simp only [sameCells]
    rw [sameCells_extract xs ys off m o n (by omega)]
    have e : ∀ zs : Array Value, (zs.extract off (off + m))[o + n]? = zs[off + o + n]? := fun zs => by
      rw [Array.getElem?_extract]
      by_cases hz : o + n < min (off + m) zs.size - off
      · rw [if_pos hz, Nat.add_assoc]
      · rw [if_neg hz, eq_comm, Array.getElem?_eq_none (by omega)]
    rw [e xs, e ys]

theorem IntCells.extract {xs ys : Array Value} {off m o n : Nat} (h : IntCells xs ys (off + o) n) (hm : o + n ≤ m) : IntCells (xs.extract off (off + m)) (ys.extract off (off + m)) o n := fun j hj => by
  obtain ⟨k, a, b, h1, h2⟩ := h j hj
  have e : ∀ (zs : Array Value) v, zs[off + o + j]? = some v → (zs.extract off (off + m))[o + j]? = some v := fun zs v hz => by
    have hl := (Array.getElem?_eq_some_iff.1 hz).1
    rw [Array.getElem?_extract, if_pos (by omega), ← Nat.add_assoc]; exact hz
  exact ⟨k, a, b, e xs _ h1, e ys _ h2⟩

/-- '==' at depth d on the parts of type t, n cells each, at any offset. -/
def EqParts (P : Program) (d : Nat) (t : TypeId) (n : Nat) : Prop :=
  ∀ (w : World) (xs ys : Array Value) (off : Nat), IntCells xs ys off n →
    (do let a ← part t xs off; let b ← part t ys off; Op.equalIn d t a b).run P w = .ok (sameCells xs ys off n) w

theorem eqParts_int {d : Nat} {t : TypeId} {k : IntKind} (h : P.underlying t = some (.int k)) : EqParts P (d + 1) t 1 := fun w xs ys off hc => by
  obtain ⟨k', a, b, h1, h2⟩ := hc 0 (by omega)
  simp only [Nat.add_zero] at h1 h2
  simp only [Sem.run_bind, run_part_int h xs off _ h1 w, run_part_int h ys off _ h2 w, Result.andThen_ok]
  rw [run_equalIn_int w d t k' k a b h]
  simp [sameCells, h1, h2]

theorem run_eqLoop {d : Nat} {e : TypeId} {n : Nat} (he : EqParts P d e n) (xs ys : Array Value) : ∀ (l s : Nat) (w : World), IntCells xs ys (s * n) (l * n) →
    (forIn (List.range' s l) ((none, ()) : Option Bool × PUnit) fun i _ => (do
        let a ← part e xs (i * n)
        let b ← part e ys (i * n)
        let r ← Op.equalIn d e a b
        if (!r) = true then pure (ForInStep.done (some false, ())) else pure (ForInStep.yield (none, ())) : Sem (ForInStep (Option Bool × PUnit)))).run P w
      = .ok (if sameCells xs ys (s * n) (l * n) then (none, ()) else (some false, ())) w
  | 0, s, w, _ => by simp [sameCells]
  | l + 1, s, w, hc => by
    have e1 : (l + 1) * n = n + l * n := by rw [Nat.add_mul, Nat.one_mul, Nat.add_comm]
    rw [List.range'_succ, List.forIn_cons]
    have h0 := he w xs ys (s * n) (fun j hj => hc j (by rw [e1]; omega))
    have h0' : (do let a ← part e xs (s * n); let b ← part e ys (s * n); let r ← Op.equalIn d e a b; if (!r) = true then pure (ForInStep.done (some false, ())) else pure (ForInStep.yield (none, ())) : Sem (ForInStep (Option Bool × PUnit))).run P w
        = ((do let a ← part e xs (s * n); let b ← part e ys (s * n); Op.equalIn d e a b : Sem Bool).run P w).andThen fun r w' => ((if (!r) = true then pure (ForInStep.done (some false, ())) else pure (ForInStep.yield (none, ())) : Sem (ForInStep (Option Bool × PUnit)))).run P w' := by
      simp only [Sem.run_bind]
      cases (part e xs (s * n)).run P w <;> simp [Result.andThen]
      rename_i a w1
      cases (part e ys (s * n)).run P w1 <;> simp
    rw [Sem.run_bind, h0', h0]
    simp only [Result.andThen_ok]
    rw [e1, sameCells_split]
    by_cases hs : sameCells xs ys (s * n) n = true
    · simp only [hs, Bool.not_true, Bool.false_eq_true, if_false, Sem.run_pure, Result.andThen_ok, Bool.true_and]
      have := run_eqLoop he xs ys l (s + 1) w (fun j hj => by
        have := hc (n + j) (by rw [e1]; omega)
        rw [Nat.add_mul, Nat.one_mul, Nat.add_assoc]; exact this)
      rw [Nat.add_mul, Nat.one_mul] at this
      exact this
    · simp only [Bool.not_eq_true] at hs
      simp only [hs, Bool.not_false, if_true, Sem.run_pure, Result.andThen_ok, Bool.false_and, Bool.false_eq_true, if_false]

theorem run_equalIn_arr {d : Nat} {t e : TypeId} {len n : Nat} (h : P.underlying t = some (.array len e)) (hn : (P.info? e).map (·.size) = some n) (he : EqParts P d e n) (xs ys : Array Value) (w : World)
    (hc : IntCells xs ys 0 (len * n)) : (Op.equalIn (d + 1) t (.agg xs) (.agg ys)).run P w = .ok (sameCells xs ys 0 (len * n)) w := by
  simp only [Op.equalIn, Sem.run_bind, run_underlying h, Result.andThen_ok, run_sizeOf_of hn]
  rw [Std.Legacy.Range.forIn_eq_forIn_range']
  have := run_eqLoop he xs ys len 0 w (by simpa using hc)
  simp only [Std.Legacy.Range.size, Nat.sub_zero, Nat.add_sub_cancel, Nat.div_one]
  simp only [Nat.zero_mul] at this
  rw [this]
  by_cases hs : sameCells xs ys 0 (len * n) = true
  · simp [hs]
  · simp only [Bool.not_eq_true] at hs; simp [hs]

theorem eqParts_array {d : Nat} {t e : TypeId} {len n : Nat} (h : P.underlying t = some (.array len e)) (hn : (P.info? e).map (·.size) = some n) (ht : (P.info? t).map (·.size) = some (len * n)) (he : EqParts P d e n) : EqParts P (d + 1) t (len * n) := fun w xs ys off hc => by
  simp only [Sem.run_bind, run_part_agg h rfl ht, Result.andThen_ok]
  rw [run_equalIn_arr h hn he _ _ w (IntCells.extract (o := 0) (by simpa using hc) (by omega)), sameCells_extract _ _ _ _ _ _ (by omega)]
  rfl

theorem run_equalIn_two {d : Nat} {t : TypeId} {f g : Field} {n m : Nat} (h : P.underlying t = some (.struct #[f, g])) (hp : P.stoodInHeld t = false) (hf : f.name ≠ "_") (hg : g.name ≠ "_")
    (hof : f.offset = 0) (hog : g.offset = n) (hef : EqParts P d f.type n) (heg : EqParts P d g.type m) (xs ys : Array Value) (w : World) (hc : IntCells xs ys 0 (n + m)) :
    (Op.equalIn (d + 1) t (.agg xs) (.agg ys)).run P w = .ok (sameCells xs ys 0 (n + m)) w := by
  have hfl : P.fieldsOf t = #[f, g] := by simp [Program.fieldsOf, h]
  rw [run_equalIn_struct w d t xs ys (by rw [hfl]; exact h) hp, hfl]
  have h1 := hef w xs ys 0 (fun j hj => hc j (by omega))
  have h2 := heg w xs ys n (fun j hj => by have := hc (n + j) (by omega); simpa using this)
  rw [sameCells_split]
  simp only [Nat.zero_add]
  simp only [Sem.run_bind] at h1 h2
  simp only [Op.eqFields, hf, hg, hof, hog, ne_eq, not_false_eq_true, if_true, Sem.run_bind]
  cases h3 : (part f.type xs 0).run P w with
  | halt x w1 => rw [h3] at h1; simp [Result.andThen] at h1
  | ok a w1 =>
    rw [h3] at h1
    simp only [Result.andThen_ok] at h1 ⊢
    cases h4 : (part f.type ys 0).run P w1 with
    | halt x w2 => rw [h4] at h1; simp [Result.andThen] at h1
    | ok b w2 =>
      rw [h4] at h1
      simp only [Result.andThen_ok] at h1 ⊢
      rw [h1]
      simp only [Result.andThen_ok]
      by_cases hs : sameCells xs ys 0 n = true
      · simp only [hs, Bool.not_true, Bool.false_eq_true, if_false, Bool.true_and]
        cases h5 : (part g.type xs n).run P w with
        | halt x w3 => rw [h5] at h2; simp [Result.andThen] at h2
        | ok a' w3 =>
          rw [h5] at h2
          simp only [Result.andThen_ok, Sem.run_bind] at h2 ⊢
          cases h6 : (part g.type ys n).run P w3 with
          | halt x w4 => rw [h6] at h2; simp [Result.andThen] at h2
          | ok b' w4 =>
            rw [h6] at h2
            simp only [Result.andThen_ok] at h2
            rw [h5]
            simp only [Result.andThen_ok]
            rw [h6]
            simp only [Result.andThen_ok]
            rw [h2]
            simp only [Result.andThen_ok]
            by_cases ht : sameCells xs ys n m = true
            · simp [ht]
            · simp only [Bool.not_eq_true] at ht; simp [ht]
      · simp only [Bool.not_eq_true] at hs; simp [hs]

theorem eqParts_two {d : Nat} {t : TypeId} {f g : Field} {n m : Nat} (h : P.underlying t = some (.struct #[f, g])) (hp : P.stoodInHeld t = false) (hf : f.name ≠ "_") (hg : g.name ≠ "_")
    (hof : f.offset = 0) (hog : g.offset = n) (ht : (P.info? t).map (·.size) = some (n + m)) (hef : EqParts P d f.type n) (heg : EqParts P d g.type m) : EqParts P (d + 1) t (n + m) := fun w xs ys off hc => by
  simp only [Sem.run_bind, run_part_agg h rfl ht, Result.andThen_ok]
  rw [run_equalIn_two h hp hf hg hof hog hef heg _ _ w (IntCells.extract (o := 0) (by simpa using hc) (by omega)), sameCells_extract _ _ _ _ _ _ (by omega)]
  rfl

/-- The same, cell by cell: the two are one. -/
theorem sameCells_iff {xs ys : Array Value} : ∀ {n : Nat}, IntCells xs ys 0 n → (sameCells xs ys 0 n = true ↔ ∀ j, j < n → xs[j]? = ys[j]?)
  | 0, _ => by simp [sameCells]
  | n + 1, hc => by
    have ih := sameCells_iff (n := n) (fun j hj => hc j (by omega))
    obtain ⟨k, a, b, h1, h2⟩ := hc n (by omega)
    simp only [Nat.zero_add] at h1 h2
    simp only [sameCells, Bool.and_eq_true, Nat.zero_add, h1, h2, ih, beq_iff_eq]
    constructor
    · rintro ⟨hx, rfl⟩ j hj
      by_cases e : j = n
      · subst e; rw [h1, h2]
      · exact hx j (by omega)
    · intro hx
      refine ⟨fun j hj => hx j (by omega), ?_⟩
      have := hx n (by omega)
      rw [h1, h2] at this
      simpa using this
theorem sameCells_eq {xs ys : Array Value} {n : Nat} (hx : xs.size = n) (hy : ys.size = n) (hc : IntCells xs ys 0 n) : sameCells xs ys 0 n = true ↔ xs = ys := by
  rw [sameCells_iff hc]
  constructor
  · intro h
    apply Array.ext_getElem?
    intro j
    by_cases hj : j < n
    · exact h j hj
    · rw [Array.getElem?_eq_none (by omega), Array.getElem?_eq_none (by omega)]
  · rintro rfl j _; rfl

end Go.Proofs.YtheiaebmemcbhaaDoor
