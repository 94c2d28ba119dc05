/- A region that draws its order, whose operations read and whose callees read and make memory: one walk of the text's order serves every order. -/
import Derived.Test.YtnmfbhiooccgfaaLaws
import Derived.Test.YtnmfbhiooccgfaaInv
import Derived.BigQuiet
import Derived.Lib.QuietBelow
namespace Go.Proofs.Ytnmfbhiooccgfaa
open Go.RowKit

theorem grown_below {w w' : World} (h : ∃ p : Regrown, w' = Sort.grow (redrawn w p.d) p.os) : Below w.heap.size w w' := by
  obtain ⟨p, rfl⟩ := h
  exact below_regrown w p.d p.os
theorem grown_heap {w w' : World} (h : ∃ p : Regrown, w' = Sort.grow (redrawn w p.d) p.os) {i : Nat} {o : Obj} (hi : w.heap[i]? = some o) : w'.heap[i]? = some o := heap_below (grown_below h) hi
theorem grown_step {w w' w'' : World} (h : ∃ p : Regrown, w' = Sort.grow (redrawn w p.d) p.os) (hb : Below w'.heap.size w' w'') : ∃ p : Regrown, w'' = Sort.grow (redrawn w p.d) p.os :=
  regrown_of_below (Below.step (grown_below h) hb)

section
variable {P : Program}
theorem quiet_load_row {o : Oper} {a : Act} {C : World → Prop} {K : Act → Prop} (ty : TypeId) (x : Operand) (ho : o.op = .load ty x)
    (g : Nat) (hx : a.eval x = .pointer (some ⟨g, 0, none⟩)) (t : TypeId) (cs : Array Value) (fr : Nat × Nat) (d : TypeDesc) (hg : ∀ w, C w → w.heap[g]? = some (.cells cs t fr))
    (hu : P.underlying ty = some d) (hd : (match d with | .struct _ | .array _ _ => true | _ => false) = true) (hi : (P.info? ty).map (·.size) = some cs.size)
    (h : K (a.put o.dst (.agg cs))) : o.quiet P a C K :=
  ⟨.agg cs, fun w hw => by
    unfold Oper.quietAt execOp
    simp only [ho, hx, Instr.loadAt, Instr.sureAddr, Sem.run_bind, Sem.run_pure, Result.andThen_ok, run_loadVar_row w g t ty cs fr d (hg w hw) hu hd hi]
    exact ⟨rfl, rfl⟩, h⟩
theorem wpQuiet_load_row {ops : Array Oper} {Q : Act → Prop} {rest : List Oper} {o : Oper} {a : Act} {C : World → Prop} (hw : Region.wanted o (yielded ops a.tmps) = true) (ty : TypeId) (x : Operand) (ho : o.op = .load ty x)
    (g : Nat) (hx : a.eval x = .pointer (some ⟨g, 0, none⟩)) (t : TypeId) (cs : Array Value) (fr : Nat × Nat) (d : TypeDesc) (hg : ∀ w, C w → w.heap[g]? = some (.cells cs t fr))
    (hu : P.underlying ty = some d) (hd : (match d with | .struct _ | .array _ _ => true | _ => false) = true) (hi : (P.info? ty).map (·.size) = some cs.size)
    (h : wpQuiet P ops C Q rest (a.put o.dst (.agg cs))) : wpQuiet P ops C Q (o :: rest) a :=
  BigFrame.wpQuiet_want hw fun _ hK => quiet_load_row ty x ho g hx t cs fr d hg hu hd hi (hK _ h)
theorem run_eql_agg {o : Oper} {a : Act} (ty ty' : TypeId) (x y : Operand) (ho : o.op = .binOp .eql ty x y ty') (X Y : Array Value) (hx : a.eval x = .agg X) (hy : a.eval y = .agg Y) (b : Bool)
    (hE : ∀ w, (Op.equalIn 10000 ty (.agg X) (.agg Y)).run P w = .ok b w) (hG : P.eqGuardType P.depth ty = false) (w : World) : (execOp a.eval o).run P w = .ok (.value (.bool b)) w := by
  unfold execOp
  simp [ho, hx, hy, Sem.run_bind, run_eqGuard_agg (P := P) w _ ty x y X Y hG, run_eql_struct, hE]
theorem wpQuiet_run {ops : Array Oper} {Q : Act → Prop} {rest : List Oper} {o : Oper} {a : Act} {C : World → Prop} (hw : Region.wanted o (yielded ops a.tmps) = true) (v : Value)
    (hr : ∀ w, (execOp a.eval o).run P w = .ok (.value v) w) (h : wpQuiet P ops C Q rest (a.put o.dst v)) : wpQuiet P ops C Q (o :: rest) a :=
  BigFrame.wpQuiet_want hw fun _ hK => ⟨v, fun w' _ => by
    unfold Oper.quietAt
    rw [hr]
    exact ⟨rfl, rfl⟩, hK _ h⟩
theorem wpQuiet_move' {ops : Array Oper} {Q : Act → Prop} {rest : List Oper} {o : Oper} {a : Act} {C : World → Prop} (x : Operand) (ho : o.op = .move x) (hw : Region.wanted o (yielded ops a.tmps) = true) (v : Value)
    (hv : a.eval x = v) (h : wpQuiet P ops C Q rest (a.put o.dst v)) : wpQuiet P ops C Q (o :: rest) a :=
  wpQuiet_run hw v (fun w => by subst hv; unfold execOp; simp [ho]) h
theorem wpQuiet_assign' {ops : Array Oper} {Q : Act → Prop} {rest : List Oper} {o : Oper} {a : Act} {C : World → Prop} (x : Operand) (ho : o.op = .assign x) (hw : Region.wanted o (yielded ops a.tmps) = true) (v : Value)
    (hv : a.eval x = v) (h : wpQuiet P ops C Q rest (a.put o.dst v)) : wpQuiet P ops C Q (o :: rest) a :=
  wpQuiet_run hw v (fun w => by subst hv; unfold execOp; simp [ho]) h
theorem wpQuiet_pick {ops : Array Oper} {Q : Act → Prop} {rest : List Oper} {o : Oper} {a : Act} {C : World → Prop} (c x y : Operand) (ho : o.op = .pick c x y) (hw : Region.wanted o (yielded ops a.tmps) = true) (b : Bool) (v : Value)
    (hc : a.eval c = .bool b) (hv : (if b = true then a.eval x else a.eval y) = v) (h : wpQuiet P ops C Q rest (a.put o.dst v)) : wpQuiet P ops C Q (o :: rest) a :=
  wpQuiet_run hw v (fun w => by subst hv; unfold execOp; simp [ho, hc, asBool]) h
/-- A call of a function of the program, by a contract that serves in every world that has grown out of the one at hand. -/
theorem wpQuiet_call {ops : Array Oper} {Q : Act → Prop} {rest : List Oper} {o : Oper} {a : Act} {C : World → Prop} (f : FuncId) (xs : Array Operand) (ats : Array TypeId) (ho : o.op = .call { callee := .value (.func f), args := xs, argTypes := ats })
    (hw : Region.wanted o (yielded ops a.tmps) = true) (hf : ∀ args w, (callFunc f args).run P w = .ok (.enter f args) w) (args : Array Value) (hargs : #[] ++ xs.map a.eval ++ #[] = args) (v : Value)
    (hC : ∀ w' w'', C w' → Below w'.heap.size w' w'' → C w'') (hc : ∀ w', C w' → Calls P f args w' fun e w'' => e = .returned v ∧ Below w'.heap.size w' w'') (h : wpQuiet P ops C Q rest (a.put o.dst v)) : wpQuiet P ops C Q (o :: rest) a :=
  BigFrame.wpQuiet_want hw fun _ hK => ⟨v, fun w' hw' => by
    have e : execOp a.eval o = callFunc f (#[] ++ xs.map a.eval ++ #[]) := by
      obtain ⟨dst, op, ty, pos, after, guard⟩ := o
      simp only at ho
      subst ho
      rfl
    unfold Oper.quietAt
    rw [e, hargs, hf]
    exact ⟨rfl, (hc w' hw').mono fun _ _ ⟨he, hb⟩ => ⟨he, hC _ _ hw' hb⟩⟩, hK _ h⟩
end

end Go.Proofs.Ytnmfbhiooccgfaa
