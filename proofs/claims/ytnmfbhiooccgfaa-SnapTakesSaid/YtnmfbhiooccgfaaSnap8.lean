/- Forget; what a forest that has been taken from says of its sectors. -/
import Derived.Test.YtnmfbhiooccgfaaSnap7
import Derived.Test.YtnmfbhiooccgfaaGrow
namespace Go.Proofs.Ytnmfbhiooccgfaa
open Go.RowKit

def delT (f : Fo) (k : Nat) : Fo := ⟨fun a => if a = k then fun _ => 0 else f.nd a, fun a => if a = k then emp else f.hs a⟩
theorem put_zero (f : Fo) (k : Nat) (hk : k < 4) : ((encF f).toList.take (k * 48) ++ (encT zeroF 0).toList ++ (encF f).toList.drop (k * 48 + (encT zeroF 0).size)).toArray = encF (delT f k) := by
  apply Array.ext_getElem?
  intro i
  rw [encT_size]
  by_cases hi : i < 192
  · obtain ⟨a, j, ha, hj, rfl⟩ : ∃ a j, a < 4 ∧ j < 48 ∧ i = a * 48 + j := ⟨i / 48, i % 48, by omega, by omega, by omega⟩
    rw [encF_get _ a j ha hj, List.getElem?_toArray]
    have hl1 : ((encF f).toList.take (k * 48)).length = k * 48 := by rw [List.length_take, Array.length_toList, encF_size]; omega
    have hl2 : (encT zeroF 0).toList.length = 48 := by rw [Array.length_toList, encT_size]
    by_cases h1 : a < k
    · rw [List.append_assoc, List.getElem?_append_left (by omega), List.getElem?_take, if_pos (by omega), Array.getElem?_toList, encF_get f a j ha hj]
      unfold cellF delT
      simp only [if_neg (by omega : ¬ a = k)]
    · by_cases h2 : a = k
      · subst h2
        rw [List.append_assoc, List.getElem?_append_right (by omega), List.getElem?_append_left (by omega), hl1, show a * 48 + j - a * 48 = j by omega, Array.getElem?_toList, encT_get zeroF 0 j hj]
        unfold cellF delT zeroF
        simp only [if_true]
      · rw [List.getElem?_append_right (by rw [List.length_append]; omega), List.length_append, hl1, hl2, List.getElem?_drop, show k * 48 + 48 + (a * 48 + j - (k * 48 + 48)) = a * 48 + j by omega, Array.getElem?_toList, encF_get f a j ha hj]
        unfold cellF delT
        simp only [if_neg h2]
  · rw [Array.getElem?_eq_none (by simp [encF_size, encT_size]; omega), Array.getElem?_eq_none (by rw [encF_size]; omega)]
theorem del_put (f : Fo) (k : Nat) : delT (putT f k) k = delT f k := by
  unfold delT putT
  congr 1
  · funext a; simp only; split <;> simp [*]
  · funext a; simp only; split <;> simp [*]
theorem there_put (f : Fo) (k : Nat) : thereB (putT f k) k = thereB f 0 := by simp [thereB, putT]

set_option maxRecDepth 100000 in
set_option maxHeartbeats 4000000 in
theorem forget_raw (f : Fo) (k : Nat) (hk1 : 1 ≤ k) (hk4 : k < 4) (A X T0 : Array Value) (HA : Hid (A = encF f)) (HX : Hid (X = encF (delT f k))) (HT0 : Hid (T0 = encT zeroF 0)) (Hth : Hid (thereB f k = true)) (w : World) :
    Calls Try.prog 25 #[.agg A, .int .i64 (k : Int)] w fun e w' => e = .returned (.tuple #[.agg X, .int .i64 0]) ∧ Below w.heap.size w w' := by
  have hlt2 : (k : Int) < 4 := by omega
  have hk0 : (0 : Int) ≤ (k : Int) := by omega
  have hk2 : decide ((k : Int) < 1) = false := decide_eq_false (by omega)
  have HAS : Hid (A.size = 192) := by rw [HA.out]; exact encF_size f
  have HXS : Hid (X.size = 192) := by rw [HX.out]; exact encF_size _
  have HX1 : Hid (X.all (·.oneCell') = true) := by rw [HX.out]; exact encF_one _
  have HTS : Hid (T0.size = 48) := by rw [HT0.out]; exact encT_size _ _
  have HT1 : Hid (T0.all (·.oneCell') = true) := by rw [HT0.out]; exact encT_one _ _
  have HTZ : Hid (∀ w, (zeroValue 40).run Try.prog w = .ok (.agg T0) w) := by rw [HT0.out]; exact treeZ
  obtain ⟨Z0, HZ0⟩ : ∃ Z, Hid (Z = encF zeroF) := ⟨_, rfl⟩
  have HZ : Hid (∀ w, (zeroValue 42).run Try.prog w = .ok (.agg Z0) w) := by rw [HZ0.out]; exact forZ
  have HZS : Hid (Z0.size = 192) := by rw [HZ0.out]; exact encF_size _
  have HPB : Hid ((A.toList.take (k * 48) ++ T0.toList ++ A.toList.drop (k * 48 + T0.size)).toArray = X) := by
    rw [HA.out, HT0.out, HX.out]; exact put_zero f k hk4
  have HTH : Hid (∀ (W : World), Calls Try.prog 24 #[.agg A, .int .i64 (k : Int)] W fun e w' => e = .returned (.bool true) ∧ Below W.heap.size W w') := fun W => by
    rw [HA.out, ← Hth.out]; exact there_in f k W hk4
  go_enter Try.func25, Try.ntmps25
  go_wp2_with (first
    | (refine wpList_alloc_row rfl 42 rfl Z0 HZ.out ?_)
    | (refine wpList_load_row_g (by kernel_rfl) 42 (.tmp 2) rfl w.heap.size rfl 42 A (0, 0) _ (heap_alloc2_old w _ _) forT rfl (by rw [HAS.out]; exact forI) ?_))
  refine (HTH.out _).mono ?_
  rintro e w1 ⟨rfl, hb1⟩
  have HF1 : Hid (w1.heap[w.heap.size]? = some (.cells A 42 (0, 0))) := heap_below hb1 (heap_alloc2_old w _ _)
  have HR1 : Hid (w1.heap[w.heap.size + 1]? = some (.cells Z0 42 (0, 0))) := heap_below hb1 (heap_alloc2_new w _ _)
  have hB1 : Below w.heap.size w w1 := Below.step (((Below.refl _ _).alloc (Nat.le_refl _) _).alloc (by simp) _) hb1
  clear hb1
  have HF3 : Hid ((w1.setRow w.heap.size X).heap[w.heap.size]? = some (.cells X 42 (0, 0))) := setRow_heap _ _ _ _ _ _ HF1.out
  have HR3 : Hid ((w1.setRow w.heap.size X).heap[w.heap.size + 1]? = some (.cells Z0 42 (0, 0))) := heap_setRow_keep HR1.out _ _ (by omega)
  have htz := HTZ.out
  go_wp2_with (first
    | (refine wpList_store_part rfl 40 (.tmp 17) (.tmp 16) rfl w.heap.size (k * 48) T0 rfl rfl 42 A X HF1.out (by rw [HTS.out]; exact treeI) (by rw [HTS.out, HAS.out]; omega) HT1.out HPB.out ?_)
    | (refine wpList_load_row rfl 42 (.tmp 2) rfl w.heap.size rfl 42 X (0, 0) _ HF3.out forT rfl (by rw [HXS.out]; exact forI) ?_)
    | (refine wpList_store_row rfl 42 (.tmp 4) (.tmp 18) rfl (w.heap.size + 1) X rfl rfl 42 Z0 HR3.out (by rw [HXS.out]; exact forI) (by rw [HZS.out, HXS.out]) HX1.out ?_))

  refine bodyPost_ret (results_two rfl _ _ (w.heap.size + 1) 42 X (0, 0) _ (.int .i64 0) rfl rfl (setRow_heap _ _ _ _ _ _ HR3.out) forT rfl (by rw [HXS.out]; exact forI)) rfl ⟨rfl, ?_⟩
  exact Below.setRow (Below.setRow hB1 (Nat.le_refl _) _) (by omega) _
theorem forget_in (f : Fo) (k : Nat) (hk1 : 1 ≤ k) (hk4 : k < 4) (Hth : thereB f k = true) (w : World) :
    Calls Try.prog 25 #[.agg (encF f), .int .i64 (k : Int)] w fun e w' => e = .returned (.tuple #[.agg (encF (delT f k)), .int .i64 0]) ∧ Below w.heap.size w w' :=
  forget_raw f k hk1 hk4 _ _ _ rfl rfl rfl Hth w

section
variable {P : Program}
theorem wpQuiet_load_part {ops : Array Oper} {Q : Act → Prop} {rest : List Oper} {o : Oper} {a : Act} {C : World → Prop} (hw : Region.wanted o (yielded ops a.tmps) = true) (ty : TypeId) (x : Operand) (ho : o.op = .load ty x)
    (g off : Nat) (hx : a.eval x = .pointer (some ⟨g, off, none⟩)) (t : TypeId) (cs A : Array Value) (fr : Nat × Nat) (d : TypeDesc) (hg : ∀ w, C w → w.heap[g]? = some (.cells cs t fr)) (hA : ∀ j, j < A.size → cs[off + j]? = A[j]?)
    (hu : P.underlying ty = some d) (hd : (match d with | .struct _ | .array _ _ => true | _ => false) = true) (hi : (P.info? ty).map (·.size) = some A.size)
    (h : wpQuiet P ops C Q rest (a.put o.dst (.agg A))) : wpQuiet P ops C Q (o :: rest) a :=
  BigFrame.wpQuiet_want hw fun _ hK => ⟨.agg A, fun w hw => by
    unfold Oper.quietAt execOp
    simp only [ho, hx, Instr.loadAt, Instr.sureAddr, Sem.run_bind, Sem.run_pure, Result.andThen_ok, run_loadVar_part w g off t ty cs A fr d (hg w hw) hA hu hd hi]
    exact ⟨rfl, rfl⟩, hK _ h⟩
theorem wpList_run_o {ops : Array Oper} {rest : List Oper} {o : Oper} {a : Act} {w : World} {Q : Exit → Act → World → Prop} (hw : Region.wanted o (yielded ops a.tmps) = true) (v : Value)
    (hr : ∀ w, (execOp a.eval o).run P w = .ok (.value v) w) (h : wpList P ops Q rest (a.put o.dst v) w) : wpList P ops Q (o :: rest) a w :=
  wpList_want hw fun _ hK => by
    unfold Oper.wp
    rw [hr]
    exact hK _ _ h
theorem run_neq_agg {o : Oper} {a : Act} (ty ty' : TypeId) (x y : Operand) (ho : o.op = .binOp .neq ty x y ty') (X Y : Array Value) (hx : a.eval x = .agg X) (hy : a.eval y = .agg Y) (b : Bool)
    (hE : ∀ w, (Op.equalIn 10000 ty (.agg X) (.agg Y)).run P w = .ok b w) (hG : P.eqGuardType P.depth ty = false) (w : World) : (execOp a.eval o).run P w = .ok (.value (.bool (!b))) w := by
  unfold execOp
  simp [ho, hx, hy, Sem.run_bind, run_eqGuard_agg (P := P) w _ ty x y X Y hG, run_neq_struct, hE]
end

theorem or4 (a b c d : Bool) : (a || b || c || d) = (a || (b || (c || d))) := by cases a <;> cases b <;> rfl
theorem takenS_at (f : Fo) (n : Nat) : takenS f 4 n = ((thereB f 0 && f.hs 0 n) || (thereB f 1 && f.hs 1 n) || (thereB f 2 && f.hs 2 n) || (thereB f 3 && f.hs 3 n)) := by
  simp only [takenS]
  cases thereB f 0 <;> cases thereB f 1 <;> cases thereB f 2 <;> cases thereB f 3 <;> simp [join, emp]
theorem sharedS_at (f : Fo) (n : Nat) : sharedS f 4 n = ((thereB f 1 && f.hs 1 n) || (thereB f 2 && f.hs 2 n) || (thereB f 3 && f.hs 3 n)) := by
  simp only [sharedS]
  cases thereB f 1 <;> cases thereB f 2 <;> cases thereB f 3 <;> simp [join, emp]
theorem there_putT (f : Fo) (k a : Nat) : thereB (putT f k) a = if a = k then thereB f 0 else thereB f a := by
  unfold thereB putT
  simp only
  split <;> rfl
theorem hs_putT (f : Fo) (k a : Nat) : (putT f k).hs a = if a = k then f.hs 0 else f.hs a := rfl
theorem takenS_put (f : Fo) (k : Nat) (h1 : 1 ≤ k) (h4 : k < 4) (h0 : thereB f 0 = true) (hk : thereB f k = false) : takenS (putT f k) 4 = takenS f 4 := by
  funext n
  rw [takenS_at, takenS_at]
  simp only [there_putT, hs_putT]
  match k, h1, h4 with
  | 1, _, _ =>
    simp only [reduceIte, Nat.reduceEqDiff, h0, hk, Bool.true_and, Bool.false_and]
    cases f.hs 0 n <;> simp
  | 2, _, _ =>
    simp only [reduceIte, h0, hk, Bool.true_and, Bool.false_and, show ((0 : Nat) = 2) = False by simp, show ((1 : Nat) = 2) = False by simp, show ((3 : Nat) = 2) = False by simp]
    cases f.hs 0 n <;> cases (thereB f 1 && f.hs 1 n) <;> simp
  | 3, _, _ =>
    simp only [reduceIte, Nat.reduceEqDiff, h0, hk, Bool.true_and, Bool.false_and]
    cases f.hs 0 n <;> cases (thereB f 1 && f.hs 1 n) <;> cases (thereB f 2 && f.hs 2 n) <;> simp
theorem sharedS_put (f : Fo) (k n : Nat) (h1 : 1 ≤ k) (h4 : k < 4) (h0 : thereB f 0 = true) (hn : f.hs 0 n = true) : sharedS (putT f k) 4 n = true := by
  rw [sharedS_at]
  simp only [there_putT, hs_putT]
  match k, h1, h4 with
  | 1, _, _ => simp [h0, hn]
  | 2, _, _ => simp [h0, hn]
  | 3, _, _ => simp [h0, hn]
theorem taken_shared (f : Fo) (n : Nat) (h : sharedS f 4 n = true) : takenS f 4 n = true := by
  rw [sharedS_at] at h
  rw [takenS_at]
  revert h
  cases (thereB f 0 && f.hs 0 n) <;> cases (thereB f 1 && f.hs 1 n) <;> cases (thereB f 2 && f.hs 2 n) <;> cases (thereB f 3 && f.hs 3 n) <;> simp
theorem free_count (s : Nat → Bool) : ∀ k, freeTo s k + cntTo s k = k
  | 0 => rfl
  | k + 1 => by
    have ih := free_count s k
    show freeTo s k + _ + (cntTo s k + _) = _
    cases s k <;> simp [b2] <;> omega

theorem setG2 : Try.prog.eqGuardType Try.prog.depth 23 = false := by kernel_rfl
theorem intCells_sets (s t : Nat → Bool) : IntCells (enc s) (enc t) 0 32 := fun j hj => ⟨.u8, _, _, by rw [Nat.zero_add]; exact enc_get s j hj, by rw [Nat.zero_add]; exact enc_get t j hj⟩
theorem run_eql_setS (s : Nat → Bool) (w : World) : (Op.equalIn 10000 23 (.agg (enc s)) (.agg (enc s))).run Try.prog w = .ok true w := by
  rw [run_equalIn_arr (len := 32) (n := 1) setT byteI (eqParts_int byteT) _ _ w (intCells_sets s s), (sameCells_eq (enc_size s) (enc_size s) (intCells_sets s s)).2 rfl]
theorem treG : Try.prog.eqGuardType Try.prog.depth 40 = false := by kernel_rfl
theorem run_eql_trees (f g : Fo) (k j : Nat) (h : encT f k = encT g j) (w : World) : (Op.equalIn 10000 40 (.agg (encT f k)) (.agg (encT g j))).run Try.prog w = .ok true w := by
  rw [run_eq_trees, (sameCells_eq (encT_size f k) (encT_size g j) (intCells_trees f g k j)).2 h]
theorem eqTrees : EqParts Try.prog 9999 40 (16 * 1 + 32 * 1) := eqParts_two (d := 9998) Try.underlying40 (by kernel_rfl) (by decide) (by decide) rfl rfl treeI
  (eqParts_array (d := 9997) nodesT intS (by kernel_rfl) (eqParts_int (d := 9996) intT)) (eqParts_array (d := 9997) setT byteI (by kernel_rfl) (eqParts_int (d := 9996) byteT))
theorem intCells_fors (f g : Fo) : IntCells (encF f) (encF g) 0 192 := fun i hi => by
  obtain ⟨a, j, ha, hj, rfl⟩ : ∃ a j, a < 4 ∧ j < 48 ∧ i = a * 48 + j := ⟨i / 48, i % 48, by omega, by omega, by omega⟩
  rw [Nat.zero_add, encF_get f a j ha hj, encF_get g a j ha hj]
  unfold cellF
  by_cases h : j < 16
  · rw [if_pos h, if_pos h]; exact ⟨_, _, _, rfl, rfl⟩
  · rw [if_neg h, if_neg h]; exact ⟨_, _, _, rfl, rfl⟩
theorem run_eq_fors (f g : Fo) (w : World) : (Op.equalIn 10000 42 (.agg (encF f)) (.agg (encF g))).run Try.prog w = .ok (sameCells (encF f) (encF g) 0 192) w :=
  run_equalIn_arr (d := 9999) (len := 4) (n := 16 * 1 + 32 * 1) forT treeI eqTrees _ _ w (intCells_fors f g)
theorem run_eql_fors (f : Fo) (w : World) : (Op.equalIn 10000 42 (.agg (encF f)) (.agg (encF f))).run Try.prog w = .ok true w := by
  rw [run_eq_fors, (sameCells_eq (encF_size f) (encF_size f) (intCells_fors f f)).2 rfl]
theorem forG : Try.prog.eqGuardType Try.prog.depth 42 = false := by kernel_rfl

end Go.Proofs.Ytnmfbhiooccgfaa
