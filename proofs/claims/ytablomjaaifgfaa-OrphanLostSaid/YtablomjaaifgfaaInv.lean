/- A region that draws its order, by an invariant: what has been done so far is told by D; each operation that may come up keeps the invariant; when all is done the invariant gives what stands behind the region. -/
import Derived.WalkKit
import Derived.Orders
import Derived.Deep.WholeRow
namespace Go.Proofs.Ytablomjaaifgfaa
open Go.RowKit

def upd (D : Nat → Bool) (i : Nat) : Nat → Bool := fun j => D j || decide (j = i)
theorem upd_self (D : Nat → Bool) (i : Nat) : upd D i i = true := by simp [upd]
theorem upd_ne {D : Nat → Bool} {i j : Nat} (h : j ≠ i) : upd D i j = D j := by simp [upd, h]
theorem of_upd {D : Nat → Bool} {i j : Nat} (h : upd D i j = true) (hn : j ≠ i) : D j = true := by rwa [upd_ne hn] at h

/-- How many are left. -/
def left : List Bool → Nat
  | [] => 0
  | b :: l => (if b then 0 else 1) + left l
theorem left_set : ∀ (l : List Bool) (i : Nat), l[i]? = some false → left (l.set i true) + 1 = left l
  | [], i, h => by simp at h
  | b :: l, 0, h => by simp at h; subst h; simp [left, Nat.add_comm]
  | b :: l, i + 1, h => by
    have := left_set l i (by simpa using h)
    simp only [List.set_cons_succ, left]
    omega
theorem left_zero : ∀ (l : List Bool), left l = 0 → ∀ (i : Nat) (b : Bool), l[i]? = some b → b = true
  | [], _, i, b, h => by simp at h
  | c :: l, h0, 0, b, h => by
    simp at h; subst h
    cases c
    · simp [left] at h0
    · rfl
  | c :: l, h0, i + 1, b, h => by
    refine left_zero l ?_ i b (by simpa using h)
    simp only [left] at h0; omega

/-- Whatever comes ahead of an operation stands ahead of it in the text. -/
def risesB (l : List Oper) : Bool := l.zipIdx.all fun (o, i) => o.after.all fun e => !Region.binds .any e || decide (e.on < i)

section
variable {P : Program} {l : List Oper} {Q : Exit → Act → World → Prop}

theorem all_done (hr : risesB l = true) (L : Array Bool) (hL : L.size = l.length) (h : Region.ready .any l.toArray L = []) : ∀ n i, i < n → i < l.length → L.getD i false = true := by
  intro n
  induction n with
  | zero => intro i hi; omega
  | succ n ih =>
    intro i hi hil
    cases hb : L.getD i false with
    | true => rfl
    | false =>
      exfalso
      have hm : i ∈ Region.ready .any l.toArray L := by
        refine mem_ready.2 ⟨?_, l[i], by simp [hil], fun e he hbe => ?_⟩
        · have hlt : i < L.size := by omega
          simp [hlt] at hb ⊢; exact hb
        · have h1 := (List.all_eq_true.1 hr) (l[i], i) (List.mk_mem_zipIdx_iff_getElem?.2 (by simp [hil]))
          have h2 := (Array.all_eq_true_iff_forall_mem.1 h1) e he
          simp [hbe] at h2
          exact ih e.on (by omega) (by omega)
      rw [h] at hm
      cases hm

theorem wpAny_inv (hr : risesB l = true) (I : (Nat → Bool) → Act → World → Prop)
    (hstep : ∀ (D : Nat → Bool) (a : Act) (w : World), I D a w → ∀ (i : Nat) (o : Oper), l[i]? = some o → D i = false → (∀ e ∈ o.after, Region.binds .any e = true → D e.on = true) →
      if Region.wanted o (yielded l.toArray a.tmps) then o.wp P a w (fun a' w' => I (upd D i) a' w') Q else I (upd D i) (a.put o.dst undef) w)
    (hend : ∀ (D : Nat → Bool) (a : Act) (w : World), I D a w → (∀ i, i < l.length → D i = true) → Q .normal a w) :
    ∀ (fuel : Nat) (L : Array Bool) (a : Act) (w : World), L.size = l.length → left L.toList ≤ fuel → I (fun j => L.getD j false) a w → wpAny P .any l.toArray Q fuel L a w := by
  intro fuel
  induction fuel with
  | zero =>
    intro L a w hL hf hI
    have hd : ∀ i, i < l.length → L.getD i false = true := fun i hi => by
      have hlt : i < L.size := by omega
      have := left_zero L.toList (by omega) i L[i] (by simp [hlt])
      simp [hlt, this]
    refine ⟨?_, hend _ _ _ hI hd⟩
    cases hrd : Region.ready .any l.toArray L with
    | nil => rfl
    | cons i rest =>
      exfalso
      have hm : i ∈ Region.ready .any l.toArray L := by rw [hrd]; simp
      obtain ⟨h1, o, ho, _⟩ := mem_ready.1 hm
      have hil : i < l.length := by simpa using (Array.getElem?_eq_some_iff.1 ho).1
      have h2 := hd i hil
      have hlt : i < L.size := by omega
      simp [hlt] at h1 h2
      rw [h1] at h2; cases h2
  | succ fuel ih =>
    intro L a w hL hf hI
    refine ⟨fun hrd => hend _ _ _ hI fun i hi => all_done hr L hL hrd (i + 1) i (by omega) hi, fun i hi => ?_⟩
    obtain ⟨h1, o, ho, h3⟩ := mem_ready.1 hi
    have hil : i < l.length := by simpa using (Array.getElem?_eq_some_iff.1 ho).1
    have hlt : i < L.size := by omega
    have hst := hstep _ a w hI i o (by simpa using ho) (by simp [hlt] at h1; simp [hlt, h1]) h3
    have hfalse : L.toList[i]? = some false := by
      simp [hlt] at h1
      simp [hlt, h1]
    have hnext : ∀ a' w', I (upd (fun j => L.getD j false) i) a' w' → wpAny P .any l.toArray Q fuel (L.setIfInBounds i true) a' w' := fun a' w' hI' => by
      refine ih _ a' w' (by simpa using hL) ?_ ?_
      · have := left_set L.toList i hfalse
        simp only [Array.toList_setIfInBounds]
        omega
      · have e : (fun j => (L.setIfInBounds i true).getD j false) = upd (fun j => L.getD j false) i := by
          funext j
          unfold upd
          by_cases hj : j = i
          · subst hj; simp [hlt]
          · rw [getD_set_ne false (fun h => hj h.symm)]; simp [hj]
        rw [e]; exact hI'
    unfold wpOp
    rw [ho]
    simp only
    split
    · rename_i hw
      rw [if_pos hw] at hst
      exact Or.inl (Oper.wp_mono hnext hst)
    · rename_i hw
      rw [if_neg hw] at hst
      exact hnext _ _ hst

theorem wp_region_inv {id : Nat} {a : Act} {w : World} (hm : P.follows .mixedOrders = true) (hr : risesB l = true) (I : (Nat → Bool) → Act → World → Prop)
    (h0 : I (fun _ => false) a w.drew)
    (hstep : ∀ (D : Nat → Bool) (a : Act) (w : World), I D a w → ∀ (i : Nat) (o : Oper), l[i]? = some o → D i = false → (∀ e ∈ o.after, Region.binds .any e = true → D e.on = true) →
      if Region.wanted o (yielded l.toArray a.tmps) then o.wp P a w (fun a' w' => I (upd D i) a' w') Q else I (upd D i) (a.put o.dst undef) w)
    (hend : ∀ (D : Nat → Bool) (a : Act) (w : World), I D a w → (∀ i, i < l.length → D i = true) → Q .normal a w) : (Code.region id l.toArray true).wp P Q a w := by
  refine wp_region_any hm (wpAny_inv hr I hstep hend _ _ _ _ (by simp) ?_ ?_)
  · have : ∀ n, left (List.replicate n false) = n := fun n => by
      induction n with
      | zero => rfl
      | succ n ih => rw [List.replicate_succ]; simp only [left, ih]; simp; omega
    simp [this]
  · have e : (fun j => (Array.replicate l.toArray.size false).getD j false) = fun _ => false := by
      funext j
      simp only [Array.getD_eq_getD_getElem?, Array.getElem?_replicate]
      split <;> rfl
    rw [e]; exact h0
end

section
variable {P : Program} {o : Oper} {a : Act} {w : World} {K : Act → World → Prop} {Q : Exit → Act → World → Prop}
theorem step_plain {ops : Array Oper} {X : Prop} (hg : o.guard = none) (h : o.wp P a w K Q) : if Region.wanted o (yielded ops a.tmps) then o.wp P a w K Q else X := by
  rw [if_pos (by simp [Region.wanted, hg])]; exact h
theorem step_want {ops : Array Oper} {X : Prop} (hw : Region.wanted o (yielded ops a.tmps) = true) (h : o.wp P a w K Q) : if Region.wanted o (yielded ops a.tmps) then o.wp P a w K Q else X := by
  rw [if_pos hw]; exact h
theorem wp_move_op (x : Operand) (ho : o.op = .move x) (h : K (a.put o.dst (a.eval x)) w) : o.wp P a w K Q := by
  unfold Oper.wp execOp
  simp only [ho]
  exact h
theorem wp_assign_op (x : Operand) (ho : o.op = .assign x) (h : K (a.put o.dst (a.eval x)) w) : o.wp P a w K Q := by
  unfold Oper.wp execOp
  simp only [ho]
  exact h
/-- A new variable, as the walk meets it. -/
theorem wp_alloc_op (ty : TypeId) (ho : o.op = .alloc ty) (Z : Array Value) (hz : ∀ w, (zeroValue ty).run P w = .ok (.agg Z) w)
    (h : K (a.put o.dst (.pointer (some ⟨w.heap.size, 0, none⟩))) (w.alloc (.cells Z ty))) : o.wp P a w K Q := by
  unfold Oper.wp execOp
  simp only [ho, Instr.alloc, Sem.run_bind, hz, Result.andThen_ok, newVar, Value.cells]
  exact h
/-- A call of a function of the program, by its contract. -/
theorem wp_call_op (f : FuncId) (xs : Array Operand) (ats : Array TypeId) (ho : o.op = .call { callee := .value (.func f), args := xs, argTypes := ats })
    (hf : ∀ args w, (callFunc f args).run P w = .ok (.enter f args) w) (args : Array Value) (hargs : #[] ++ xs.map a.eval ++ #[] = args) (v : Value) (R : World → Prop)
    (hc : Calls P f args w fun e w' => e = .returned v ∧ R w') (h : ∀ w', R w' → K (a.put o.dst v) w') : o.wp P a w K Q := by
  have e : execOp a.eval o = callFunc f (#[] ++ xs.map a.eval ++ #[]) := by
    obtain ⟨dst, op, ty, pos, after, guard⟩ := o
    simp only at ho
    subst ho
    rfl
  unfold Oper.wp
  rw [e, hargs, hf]
  exact hc.mono fun e w' ⟨he, hr⟩ => by subst he; exact h w' hr
end

end Go.Proofs.Ytablomjaaifgfaa
