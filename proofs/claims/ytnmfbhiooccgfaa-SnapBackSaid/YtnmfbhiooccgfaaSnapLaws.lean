/- Parts of a row: a struct or an array inside a variable is loaded or stored. -/
import Derived.Test.YtnmfbhiooccgfaaLaws
import Derived.Laws.CopyRow
import Derived.StillTailTactics
namespace Go.Proofs.Ytnmfbhiooccgfaa
open Go.RowKit
section
variable {P : Program}

theorem run_loadVar_part (w : World) (g off : Nat) (t ty : TypeId) (cs A : Array Value) (fr : Nat × Nat) (d : TypeDesc) (hg : w.heap[g]? = some (.cells cs t fr)) (hA : ∀ j, j < A.size → cs[off + j]? = A[j]?)
    (hu : P.underlying ty = some d) (hd : (match d with | .struct _ | .array _ _ => true | _ => false) = true) (hi : (P.info? ty).map (·.size) = some A.size) :
    (loadVar ty ⟨g, off, none⟩).run P w = .ok (.agg A) w := by
  have hl : (loadCells ⟨g, off, none⟩ A.toList.length).run P w = .ok A.toList.toArray w :=
    run_loadCells_list (P := P) w ⟨g, off, none⟩ A.toList (fun j v hv => by
      have hadd : (⟨g, off, none⟩ : Addr).add j = ⟨g, off + j, none⟩ := by unfold Addr.add; split <;> simp_all
      have hj := (List.getElem?_eq_some_iff.1 hv).1
      rw [hadd, cell_of_row w g _ cs t fr hg, hA j (by simpa using hj)]
      simpa using hv)
  cases hq : P.info? ty with
  | none => simp [hq] at hi
  | some i =>
    have hs : i.size = A.size := by simpa [hq] using hi
    have hagg : (isAgg ty).run P w = .ok true w := by
      unfold isAgg
      rw [Sem.run_bind, run_underlying hu w]
      cases d <;> simp_all
    simp only [Array.length_toList, Array.toArray_toList] at hl
    simp [loadVar, Sem.run_bind, hagg, sizeOf, typeInfo, hq, hs, hl]
theorem wp_load_part {o : Oper} {a : Act} {w : World} {K : Act → World → Prop} {Q : Exit → Act → World → Prop} (ty : TypeId) (x : Operand) (ho : o.op = .load ty x)
    (g off : Nat) (hx : a.eval x = .pointer (some ⟨g, off, none⟩)) (t : TypeId) (cs A : Array Value) (fr : Nat × Nat) (d : TypeDesc) (hg : w.heap[g]? = some (.cells cs t fr)) (hA : ∀ j, j < A.size → cs[off + j]? = A[j]?)
    (hu : P.underlying ty = some d) (hd : (match d with | .struct _ | .array _ _ => true | _ => false) = true) (hi : (P.info? ty).map (·.size) = some A.size)
    (h : K (a.put o.dst (.agg A)) w) : o.wp P a w K Q := by
  unfold Oper.wp execOp
  simp only [ho, hx, Instr.loadAt, Instr.sureAddr, Sem.run_bind, Sem.run_pure, Result.andThen_ok, run_loadVar_part w g off t ty cs A fr d hg hA hu hd hi]
  exact h
theorem wpList_load_part {ops : Array Oper} {rest : List Oper} {o : Oper} {a : Act} {w : World} {Q : Exit → Act → World → Prop} (hw : Region.wanted o (yielded ops a.tmps) = true) (ty : TypeId) (x : Operand) (ho : o.op = .load ty x)
    (g off : Nat) (hx : a.eval x = .pointer (some ⟨g, off, none⟩)) (t : TypeId) (cs A : Array Value) (fr : Nat × Nat) (d : TypeDesc) (hg : w.heap[g]? = some (.cells cs t fr)) (hA : ∀ j, j < A.size → cs[off + j]? = A[j]?)
    (hu : P.underlying ty = some d) (hd : (match d with | .struct _ | .array _ _ => true | _ => false) = true) (hi : (P.info? ty).map (·.size) = some A.size)
    (h : wpList P ops Q rest (a.put o.dst (.agg A)) w) : wpList P ops Q (o :: rest) a w :=
  wpList_want hw fun _ hK => wp_load_part ty x ho g off hx t cs A fr d hg hA hu hd hi (hK _ _ h)
theorem run_storeVar_part (w : World) (g off : Nat) (t ty : TypeId) (old A B : Array Value) (hg : w.heap[g]? = some (.cells old t (0, 0))) (hi : (P.info? ty).map (·.size) = some A.size)
    (ho : off + A.size ≤ old.size) (h1 : A.all (·.oneCell') = true) (hB : (old.toList.take off ++ A.toList ++ old.toList.drop (off + A.size)).toArray = B) :
    (storeVar ty ⟨g, off, none⟩ (.agg A)).run P w = .ok () (w.setRow g B) := by
  have := run_storeCells_at P g off t A.toList 0 old w hg (by simp; omega) (fun v hv => (Array.all_eq_true_iff_forall_mem.1 h1) v (by simpa using hv))
  simp only [Nat.add_zero, Array.length_toList] at this
  rw [hB] at this
  cases hq : P.info? ty with
  | none => simp [hq] at hi
  | some i =>
    have hs : A.size = i.size := by simp [hq] at hi; omega
    simp [storeVar, sizeOf, typeInfo, hq, Value.cells, hs, this]
theorem wp_store_part {o : Oper} {a : Act} {w : World} {K : Act → World → Prop} {Q : Exit → Act → World → Prop} (ty : TypeId) (x y : Operand) (ho : o.op = .store ty x y)
    (g off : Nat) (A : Array Value) (hx : a.eval x = .pointer (some ⟨g, off, none⟩)) (hy : a.eval y = .agg A)
    (t : TypeId) (old B : Array Value) (hg : w.heap[g]? = some (.cells old t (0, 0))) (hi : (P.info? ty).map (·.size) = some A.size)
    (hold : off + A.size ≤ old.size) (h1 : A.all (·.oneCell') = true) (hB : (old.toList.take off ++ A.toList ++ old.toList.drop (off + A.size)).toArray = B)
    (h : K (a.put o.dst undef) (w.setRow g B)) : o.wp P a w K Q := by
  unfold Oper.wp execOp
  simp only [ho, hx, hy, Instr.storeAt, Instr.sureAddr, Sem.run_bind, Sem.run_pure, Result.andThen_ok, run_storeVar_part w g off t ty old A B hg hi hold h1 hB]
  exact h
theorem wpList_store_part {ops : Array Oper} {rest : List Oper} {o : Oper} {a : Act} {w : World} {Q : Exit → Act → World → Prop} (hgd : o.guard = none) (ty : TypeId) (x y : Operand) (ho : o.op = .store ty x y)
    (g off : Nat) (A : Array Value) (hx : a.eval x = .pointer (some ⟨g, off, none⟩)) (hy : a.eval y = .agg A)
    (t : TypeId) (old B : Array Value) (hg : w.heap[g]? = some (.cells old t (0, 0))) (hi : (P.info? ty).map (·.size) = some A.size)
    (hold : off + A.size ≤ old.size) (h1 : A.all (·.oneCell') = true) (hB : (old.toList.take off ++ A.toList ++ old.toList.drop (off + A.size)).toArray = B)
    (h : wpList P ops Q rest (a.put o.dst undef) (w.setRow g B)) : wpList P ops Q (o :: rest) a w :=
  wpList_plain hgd fun _ hK => wp_store_part ty x y ho g off A hx hy t old B hg hi hold h1 hB (hK _ _ h)
theorem wpStill_load_part {ops : Array Oper} {w : World} {Q : Act → Prop} {rest : List Oper} {o : Oper} {a : Act} (hw : Region.wanted o (yielded ops a.tmps) = true) (ty : TypeId) (x : Operand) (ho : o.op = .load ty x)
    (g off : Nat) (hx : a.eval x = .pointer (some ⟨g, off, none⟩)) (t : TypeId) (cs A : Array Value) (fr : Nat × Nat) (d : TypeDesc) (hg : w.heap[g]? = some (.cells cs t fr)) (hA : ∀ j, j < A.size → cs[off + j]? = A[j]?)
    (hu : P.underlying ty = some d) (hd : (match d with | .struct _ | .array _ _ => true | _ => false) = true) (hi : (P.info? ty).map (·.size) = some A.size)
    (h : wpStill P ops w Q rest (a.put o.dst (.agg A))) : wpStill P ops w Q (o :: rest) a := by
  unfold wpStill
  rw [if_pos hw]
  unfold Oper.still execOp
  simp only [ho, hx, Instr.loadAt, Instr.sureAddr, Sem.run_bind, Sem.run_pure, Result.andThen_ok, run_loadVar_part w g off t ty cs A fr d hg hA hu hd hi]
  exact ⟨rfl, h⟩
theorem part_all (A : Array Value) : ∀ j, j < A.size → A[0 + j]? = A[j]? := fun j _ => by rw [Nat.zero_add]
end

end Go.Proofs.Ytnmfbhiooccgfaa
