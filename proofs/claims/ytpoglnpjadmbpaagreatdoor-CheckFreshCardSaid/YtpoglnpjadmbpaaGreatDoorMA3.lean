/- Part of the proofs of CheckFresh, FsCut, FsHoles: the texts SnapLaws, DkPlain. -/
import Derived.Test.YtpoglnpjadmbpaaGreatDoorMA2
import Derived.Laws.CopyRow
import Derived.StillTailTactics
import Derived.Laws.CopyOwn
import Derived.Lib.Hide
set_option maxHeartbeats 16000000
namespace Go.Proofs.YtpoglnpjadmbpaaGreatDoor
open Go.RowKit
section
variable {P : Program}
theorem qfx (w : World) (g off : Nat) (t ty : TypeId) (cs A : Array Value) (fr : Nat × Nat) (d : TypeDesc) (hg : w.heap[g]? = some (.cells cs t fr)) (hA : ∀ j, j < A.size → cs[off + j]? = A[j]?)
  (hu : P.underlying ty = some d) (hd : (match d with | .struct _ | .array _ _ => true | _ => false) = true) (hi : (P.info? ty).map (·.size) = some A.size) :
  (loadVar ty ⟨g, off, none⟩).run P w = .ok (.agg A) w := by
 have hl : (loadCells ⟨g, off, none⟩ A.toList.length).run P w = .ok A.toList.toArray w :=
  run_loadCells_list (P := P) w ⟨g, off, none⟩ A.toList (fun j v hv => by
   have hadd : (⟨g, off, none⟩ : Addr).add j = ⟨g, off + j, none⟩ := by unfold Addr.add; split <;> simp_all
   have hj := (List.getElem?_eq_some_iff.1 hv).1
   rw [hadd, cell_of_row w g _ cs t fr hg, hA j (by simpa using hj)]
   simpa using hv)
 cases hq : P.info? ty with
 | none => simp [hq] at hi
 | some i =>
  have hs : i.size = A.size := by simpa [hq] using hi
  have hagg : (isAgg ty).run P w = .ok true w := by
   unfold isAgg
   rw [Sem.run_bind, run_underlying hu w]
   cases d <;> simp_all
  simp only [Array.length_toList, Array.toArray_toList] at hl
  simp [loadVar, Sem.run_bind, hagg, sizeOf, typeInfo, hq, hs, hl]
theorem ybca {o : Oper} {a : Act} {w : World} {K : Act → World → Prop} {Q : Exit → Act → World → Prop} (ty : TypeId) (x : Operand) (ho : o.op = .load ty x)
  (g off : Nat) (hx : a.eval x = .pointer (some ⟨g, off, none⟩)) (t : TypeId) (cs A : Array Value) (fr : Nat × Nat) (d : TypeDesc) (hg : w.heap[g]? = some (.cells cs t fr)) (hA : ∀ j, j < A.size → cs[off + j]? = A[j]?)
  (hu : P.underlying ty = some d) (hd : (match d with | .struct _ | .array _ _ => true | _ => false) = true) (hi : (P.info? ty).map (·.size) = some A.size)
  (h : K (a.put o.dst (.agg A)) w) : o.wp P a w K Q := by
 unfold Oper.wp execOp
 simp only [ho, hx, Instr.loadAt, Instr.sureAddr, Sem.run_bind, Sem.run_pure, Result.andThen_ok, qfx w g off t ty cs A fr d hg hA hu hd hi]
 exact h
theorem qat {ops : Array Oper} {rest : List Oper} {o : Oper} {a : Act} {w : World} {Q : Exit → Act → World → Prop} (hw : Region.wanted o (yielded ops a.tmps) = true) (ty : TypeId) (x : Operand) (ho : o.op = .load ty x)
  (g off : Nat) (hx : a.eval x = .pointer (some ⟨g, off, none⟩)) (t : TypeId) (cs A : Array Value) (fr : Nat × Nat) (d : TypeDesc) (hg : w.heap[g]? = some (.cells cs t fr)) (hA : ∀ j, j < A.size → cs[off + j]? = A[j]?)
  (hu : P.underlying ty = some d) (hd : (match d with | .struct _ | .array _ _ => true | _ => false) = true) (hi : (P.info? ty).map (·.size) = some A.size)
  (h : wpList P ops Q rest (a.put o.dst (.agg A)) w) : wpList P ops Q (o :: rest) a w :=
 qme hw fun _ hK => ybca ty x ho g off hx t cs A fr d hg hA hu hd hi (hK _ _ h)
theorem qoz (w : World) (g off : Nat) (t ty : TypeId) (old A B : Array Value) (hg : w.heap[g]? = some (.cells old t (0, 0))) (hi : (P.info? ty).map (·.size) = some A.size)
  (ho : off + A.size ≤ old.size) (h1 : A.all (·.oneCell') = true) (hB : (old.toList.take off ++ A.toList ++ old.toList.drop (off + A.size)).toArray = B) :
  (storeVar ty ⟨g, off, none⟩ (.agg A)).run P w = .ok () (w.setRow g B) := by
 have := run_storeCells_at P g off t A.toList 0 old w hg (by simp; omega) (fun v hv => (Array.all_eq_true_iff_forall_mem.1 h1) v (by simpa using hv))
 simp only [Nat.add_zero, Array.length_toList] at this
 rw [hB] at this
 cases hq : P.info? ty with
 | none => simp [hq] at hi
 | some i =>
  have hs : A.size = i.size := by simp [hq] at hi; omega
  simp [storeVar, sizeOf, typeInfo, hq, Value.cells, hs, this]
theorem qjd {o : Oper} {a : Act} {w : World} {K : Act → World → Prop} {Q : Exit → Act → World → Prop} (ty : TypeId) (x y : Operand) (ho : o.op = .store ty x y)
  (g off : Nat) (A : Array Value) (hx : a.eval x = .pointer (some ⟨g, off, none⟩)) (hy : a.eval y = .agg A)
  (t : TypeId) (old B : Array Value) (hg : w.heap[g]? = some (.cells old t (0, 0))) (hi : (P.info? ty).map (·.size) = some A.size)
  (hold : off + A.size ≤ old.size) (h1 : A.all (·.oneCell') = true) (hB : (old.toList.take off ++ A.toList ++ old.toList.drop (off + A.size)).toArray = B)
  (h : K (a.put o.dst undef) (w.setRow g B)) : o.wp P a w K Q := by
 unfold Oper.wp execOp
 simp only [ho, hx, hy, Instr.storeAt, Instr.sureAddr, Sem.run_bind, Sem.run_pure, Result.andThen_ok, qoz w g off t ty old A B hg hi hold h1 hB]
 exact h
theorem qfi {ops : Array Oper} {rest : List Oper} {o : Oper} {a : Act} {w : World} {Q : Exit → Act → World → Prop} (hgd : o.guard = none) (ty : TypeId) (x y : Operand) (ho : o.op = .store ty x y)
  (g off : Nat) (A : Array Value) (hx : a.eval x = .pointer (some ⟨g, off, none⟩)) (hy : a.eval y = .agg A)
  (t : TypeId) (old B : Array Value) (hg : w.heap[g]? = some (.cells old t (0, 0))) (hi : (P.info? ty).map (·.size) = some A.size)
  (hold : off + A.size ≤ old.size) (h1 : A.all (·.oneCell') = true) (hB : (old.toList.take off ++ A.toList ++ old.toList.drop (off + A.size)).toArray = B)
  (h : wpList P ops Q rest (a.put o.dst undef) (w.setRow g B)) : wpList P ops Q (o :: rest) a w :=
 wpList_plain hgd fun _ hK => qjd ty x y ho g off A hx hy t old B hg hi hold h1 hB (hK _ _ h)
theorem qik {ops : Array Oper} {w : World} {Q : Act → Prop} {rest : List Oper} {o : Oper} {a : Act} (hw : Region.wanted o (yielded ops a.tmps) = true) (ty : TypeId) (x : Operand) (ho : o.op = .load ty x)
  (g off : Nat) (hx : a.eval x = .pointer (some ⟨g, off, none⟩)) (t : TypeId) (cs A : Array Value) (fr : Nat × Nat) (d : TypeDesc) (hg : w.heap[g]? = some (.cells cs t fr)) (hA : ∀ j, j < A.size → cs[off + j]? = A[j]?)
  (hu : P.underlying ty = some d) (hd : (match d with | .struct _ | .array _ _ => true | _ => false) = true) (hi : (P.info? ty).map (·.size) = some A.size)
  (h : wpStill P ops w Q rest (a.put o.dst (.agg A))) : wpStill P ops w Q (o :: rest) a := by
 unfold wpStill
 rw [if_pos hw]
 unfold Oper.still execOp
 simp only [ho, hx, Instr.loadAt, Instr.sureAddr, Sem.run_bind, Sem.run_pure, Result.andThen_ok, qfx w g off t ty cs A fr d hg hA hu hd hi]
 exact ⟨rfl, h⟩
theorem ybtz (A : Array Value) : ∀ j, j < A.size → A[0 + j]? = A[j]? := fun j _ => by rw [Nat.zero_add]
end
end Go.Proofs.YtpoglnpjadmbpaaGreatDoor
namespace Go.Proofs.YtpoglnpjadmbpaaGreatDoor
open Go.RowKit
theorem ret_i {k : IntKind} {a b : Int} (h : a = b) : Ending.returned (.int k a) = .returned (.int k b) := by rw [h]
structure qac (F : Nat → Prop) (w w' : World) : Prop where
 os : w'.os = w.os
 tape : w'.tape = w.tape
 output : w'.output = w.output
 size : w.heap.size ≤ w'.heap.size
 block : ∀ i, i < w.heap.size → ¬ F i → w'.heap[i]? = w.heap[i]?
section
variable {F F1 : Nat → Prop} {w w1 w2 w' : World}
theorem qac.refl (F : Nat → Prop) (w : World) : qac F w w := ⟨rfl, rfl, rfl, Nat.le_refl _, fun _ _ _ => rfl⟩
theorem qac.of_below (h : Below w.heap.size w w') : qac F w w' := ⟨h.os, h.tape, h.output, h.size, fun i hi _ => h.block i hi⟩
theorem qac.trans (h : qac F w w1) (k : qac F1 w1 w2) (hF : ∀ i, F1 i → F i ∨ w.heap.size ≤ i) : qac F w w2 :=
 ⟨k.os.trans h.os, k.tape.trans h.tape, k.output.trans h.output, Nat.le_trans h.size k.size, fun i hi hn =>
  (k.block i (Nat.lt_of_lt_of_le hi h.size) (fun hc => by
   rcases hF i hc with h1 | h1
   ·exact hn h1
   ·omega)).trans (h.block i hi hn)⟩
theorem qac.step (h : qac F w w1) (k : qac F w1 w2) : qac F w w2 := h.trans k fun _ hi => Or.inl hi
theorem qac.mono (h : qac F w w') (hF : ∀ i, i < w.heap.size → F i → F1 i) : qac F1 w w' :=
 ⟨h.os, h.tape, h.output, h.size, fun i hi hn => h.block i hi fun hc => hn (hF i hi hc)⟩
theorem qac.setRow {g : Nat} (hg : F g) (cs : Array Value) : qac F w (w.setRow g cs) :=
 ⟨rfl, rfl, rfl, by simp, fun i _ hn => setRow_other w g i cs (fun e => hn (by rw [e]; exact hg))⟩
theorem qac.setCell {p : Addr} (hg : F p.block) (u : Value) : qac F w (w.setCell p u) :=
 ⟨rfl, rfl, rfl, by simp [World.setCell], fun i _ hn => Below.heap_setCell w p u i (fun e => hn (by rw [e]; exact hg))⟩
theorem qac.alloc (o : Obj) : qac F w (w.alloc o) := qac.of_below ((Below.refl _ _).alloc (Nat.le_refl _) _)
theorem qac.drew (h : qac F w w') : qac F w w'.drew := ⟨h.os, h.tape, h.output, h.size, h.block⟩
theorem qac.grown {row : Option Nat} (h : w.grownBy w' row) (hr : ∀ r, row = some r → F r) : qac F w w' :=
 ⟨h.os, h.tape, h.output, h.size, fun i hi hn => h.block i hi (fun e => hn (hr i e.symm))⟩
theorem qac.to_below {B : Nat} (h : qac F w w') (hF : ∀ i, F i → B ≤ i) (hB : B ≤ w.heap.size) : Below B w w' :=
 ⟨h.os, h.tape, h.output, h.size, fun i hi => h.block i (by omega) fun hc => by have := hF i hc; omega⟩
end
structure Dk where
 S : List Int
 N : List Int
 W : List (Nat × List Int)
 fu : Int
def qhg (E : List (Nat × Value)) : List Value := E.flatMap fun x => [.int .i64 (x.1 : Int), x.2]
theorem qmr (a b : List (Nat × Value)) : qhg (a ++ b) = qhg a ++ qhg b := by simp [qhg]
theorem quo (l : List (Nat × Value)) (k : Nat) (hk : k < l.length) : (qhg l)[k * 2]? = some (.int .i64 (l[k].1 : Int)) ∧ (qhg l)[k * 2 + 1]? = some l[k].2 := by
 induction l generalizing k with
 | nil => simp at hk
 | cons x l ih =>
  cases k with
  | zero => simp [qhg]
  | succ k =>
   have := ih k (by simpa using hk)
   simp only [qhg, List.flatMap_cons, List.cons_append, List.nil_append] at this ⊢
   rw [show (k + 1) * 2 = k * 2 + 1 + 1 by omega, show k * 2 + 1 + 1 + 1 = (k * 2 + 1) + 1 + 1 by omega]
   simpa using this
def ybet (w : World) (F : Nat → Prop) (gs gn : Nat) (v : Value) (D : List Int) : Prop :=
 ∃ g cap cur, v = .slice (some ⟨g, 0, none⟩) 64 cap ∧ D.length = 64 ∧ F g ∧ g ≠ gs ∧ g ≠ gn ∧ w.heap[g]? = some (.cells cur 5 (0, 0)) ∧ cur.toList.take 64 = u8s D
structure Lies (w : World) (gd gs gn : Nat) (wt : Value) (E : List (Nat × Value)) (st : Dk) (L k : Nat) (F : Nat → Prop) : Prop where
 fd : F gd
 fs : F gs
 fn : F gn
 ne : gs ≠ gn
 hd : w.heap[gd]? = some (.cells #[.slice (some ⟨gs, 0, none⟩) L L, .slice (some ⟨gn, 0, none⟩) L L, wt, .int .i64 st.fu] 128 (0, 0))
 hs : w.heap[gs]? = some (.cells (u8s st.S).toArray 5 (0, 0))
 hn : w.heap[gn]? = some (.cells (u8s st.N).toArray 5 (0, 0))
 ls : st.S.length = L
 ln : st.N.length = L
 hL : L = 64 * k
 k0 : 16 ≤ k
 k1 : k ≤ 256
 own : w.ownsRow 0 130 2 wt E.length (qhg E)
 fw : ∀ b, wt.ownBlock = some b → F b
 len : E.length = st.W.length
 small : E.length ≤ 1000000
 ent : ∀ (i n : Nat) (v : Value), E[i]? = some (n, v) → n < k ∧ ∃ D, st.W[i]? = some (n, D) ∧ ybet w F gs gn v D
 fin : ∀ i, F i → i < w.heap.size
 f0 : -1 ≤ st.fu
 f1 : st.fu ≤ 1000000
def qay (w : World) (d : Value) (st : Dk) (k : Nat) (F : Nat → Prop) : Prop :=
 ∃ gd gs gn wt E L, d = .pointer (some ⟨gd, 0, none⟩) ∧ Lies w gd gs gn wt E st L k F
section
variable {w w' : World} {gd gs gn : Nat} {wt : Value} {E : List (Nat × Value)} {st : Dk} {L k : Nat} {F : Nat → Prop}
theorem qao {g g' : Nat} {c c' : Array Value} {t t' : TypeId} {f f' : Nat × Nat} (h : w.heap[g]? = some (.cells c t f)) (h' : w.heap[g']? = some (.cells c' t' f')) (hne : t ≠ t') : g ≠ g' := by
 rintro rfl
 rw [h] at h'
 injection h' with h'
 injection h' with _ ht _
 exact hne ht
theorem qdr {base : Nat} {e t : TypeId} {size n : Nat} {v : Value} {xs : List Value} {g : Nat} {cs : Array Value} {fr : Nat × Nat} (h : w.ownsRow base e size v n xs) (hg : w.heap[g]? = some (.cells cs t fr)) (hne : e ≠ t) : v.ownBlock ≠ some g := by
 rcases h.2 with ⟨rfl, _⟩ | ⟨g', cap, cur, rfl, _, hh, _⟩
 ·simp [Value.ownBlock]
 ·intro he
  have : g' = g := by simpa [Value.ownBlock] using he
  subst this
  exact qao hh hg hne rfl
theorem qch {base : Nat} {e : TypeId} {size n : Nat} {v : Value} {xs : List Value} (h : w.ownsRow base e size v n xs) (hk : ∀ b, v.ownBlock = some b → w'.heap[b]? = w.heap[b]?) : w'.ownsRow base e size v n xs := by
 obtain ⟨h1, h2⟩ := h
 refine ⟨h1, ?_⟩
 rcases h2 with h2 | ⟨g, cap, cur, rfl, hg, hh, r⟩
 ·exact Or.inl h2
 ·exact Or.inr ⟨g, cap, cur, rfl, hg, (hk g rfl).trans hh, r⟩
theorem ybet.keep {v : Value} {D : List Int} {F' : Nat → Prop} (h : ybet w F gs gn v D) (hk : ∀ i c, F i → i ≠ gs → i ≠ gn → w.heap[i]? = some (.cells c 5 (0, 0)) → w'.heap[i]? = w.heap[i]?) (hF : ∀ i, F i → F' i) : ybet w' F' gs gn v D := by
 obtain ⟨g, cap, cur, rfl, h1, h2, h3, h4, h5, h6⟩ := h
 exact ⟨g, cap, cur, rfl, h1, hF _ h2, h3, h4, (hk g cur h2 h3 h4 h5).trans h5, h6⟩
theorem Lies.ne_d (h : Lies w gd gs gn wt E st L k F) : gd ≠ gs ∧ gd ≠ gn ∧ wt.ownBlock ≠ some gd ∧ wt.ownBlock ≠ some gs ∧ wt.ownBlock ≠ some gn :=
 ⟨qao h.hd h.hs (by decide), qao h.hd h.hn (by decide), qdr h.own h.hd (by decide), qdr h.own h.hs (by decide), qdr h.own h.hn (by decide)⟩
theorem Lies.keep (h : Lies w gd gs gn wt E st L k F) (hk : ∀ i, F i → w'.heap[i]? = w.heap[i]?) (hz : w.heap.size ≤ w'.heap.size) : Lies w' gd gs gn wt E st L k F :=
 { h with
  hd := (hk _ h.fd).trans h.hd
  hs := (hk _ h.fs).trans h.hs
  hn := (hk _ h.fn).trans h.hn
  own := qch h.own fun b hb => hk b (h.fw b hb)
  ent := fun i n v hi => by
   obtain ⟨h1, D, h2, h3⟩ := h.ent i n v hi
   exact ⟨h1, D, h2, h3.keep (fun i _ hi _ _ _ => hk i hi) fun _ hi => hi⟩
  fin := fun i hi => Nat.lt_of_lt_of_le (h.fin i hi) hz }
theorem qay.keep {d : Value} (h : qay w d st k F) {G : Nat → Prop} (hk : qac G w w') (hG : ∀ i, F i → ¬ G i) : qay w' d st k F := by
 obtain ⟨gd, gs, gn, wt, E, L, rfl, h⟩ := h
 exact ⟨gd, gs, gn, wt, E, L, rfl, h.keep (fun i hi => hk.block i (h.fin i hi) (hG i hi)) hk.size⟩
theorem qay.below {d : Value} (h : qay w d st k F) (hb : Below w.heap.size w w') : qay w' d st k F :=
 h.keep (G := fun _ => False) (qac.of_below hb) (fun _ _ h => h)
theorem qay.fin {d : Value} (h : qay w d st k F) : ∀ i, F i → i < w.heap.size := by
 obtain ⟨gd, gs, gn, wt, E, L, rfl, h⟩ := h
 exact h.fin
theorem qbw {g i : Nat} {c : Array Value} {t : TypeId} {fr : Nat × Nat} (h : w.heap[g]? = some (.cells c t fr)) (u : Value) : (w.setCell ⟨g, i, none⟩ u).heap[g]? = some (.cells (c.setIfInBounds i u) t fr) := by
 simp [World.setCell, Array.getElem?_modify, h]
theorem Lies.setFu (h : Lies w gd gs gn wt E st L k F) (f : Int) (h0 : -1 ≤ f) (h1 : f ≤ 1000000) : Lies (w.setCell ⟨gd, 3, none⟩ (.int .i64 f)) gd gs gn wt E { st with fu := f } L k F := by
 obtain ⟨n1, n2, n3, n4, n5⟩ := h.ne_d
 have other : ∀ i, i ≠ gd → (w.setCell ⟨gd, 3, none⟩ (.int .i64 f)).heap[i]? = w.heap[i]? := fun i hi => Below.heap_setCell w _ _ i hi
 exact { h with
  hd := by have := qbw (i := 3) h.hd (.int .i64 f); simpa using this
  hs := (other _ (Ne.symm n1)).trans h.hs
  hn := (other _ (Ne.symm n2)).trans h.hn
  own := qch h.own fun b hb => other b (fun e => n3 (by rw [hb, e]))
  ent := fun i n v hi => by
   obtain ⟨h1, D, h2, h3⟩ := h.ent i n v hi
   exact ⟨h1, D, h2, h3.keep (fun i c hi _ _ hc => other i (qao hc h.hd (by decide))) fun _ hi => hi⟩
  fin := fun i hi => by simpa [World.setCell] using h.fin i hi
  f0 := h0
  f1 := h1 }
end
def Did (d : Value) (st : Dk) (k : Nat) (F : Nat → Prop) (w w' : World) : Prop :=
 ∃ F', qay w' d st k F' ∧ (∀ i, F' i → F i ∨ w.heap.size ≤ i) ∧ qac F w w'
theorem Did.trans {d : Value} {st : Dk} {k : Nat} {F F1 : Nat → Prop} {w w1 w2 : World} (h1 : qac F w w1) (h2 : ∀ i, F1 i → F i ∨ w.heap.size ≤ i) (h : Did d st k F1 w1 w2) : Did d st k F w w2 := by
 obtain ⟨F', h3, h4, h5⟩ := h
 refine ⟨F', h3, fun i hi => ?_, h1.trans h5 h2⟩
 rcases h4 i hi with h | h
 ·exact h2 i h
 ·exact Or.inr (Nat.le_trans h1.size h)
def sec (l : List Int) (n : Nat) : List Int := (l.drop (64 * n)).take 64
def putS (l : List Int) (n : Nat) (D : List Int) : List Int := l.take (64 * n) ++ (D ++ l.drop (64 * n + 64))
theorem qhn {l : List Int} {n k : Nat} (hl : l.length = 64 * k) (hn : n < k) : (sec l n).length = 64 := by
 unfold sec; rw [List.length_take, List.length_drop]; omega
theorem qgj {l : List Int} {n k : Nat} {D : List Int} (hl : l.length = 64 * k) (hn : n < k) (hD : D.length = 64) : (putS l n D).length = 64 * k := by
 unfold putS; rw [List.length_append, List.length_append, List.length_take, List.length_drop]; omega
theorem qfw {l : List Int} {n k : Nat} {D : List Int} (hl : l.length = 64 * k) (hn : n < k) (hD : D.length = 64) : sec (putS l n D) n = D := by
 unfold sec putS
 have e : (l.take (64 * n)).length = 64 * n := by rw [List.length_take]; omega
 rw [List.drop_append_of_le_length (by omega), List.drop_of_length_le (by omega), List.nil_append, List.take_append_of_le_length (by omega), List.take_of_length_le (by omega)]
theorem qet {l : List Int} {n m k : Nat} {D : List Int} (hl : l.length = 64 * k) (hn : n < k) (_hm : m < k) (hD : D.length = 64) (h : m ≠ n) : sec (putS l n D) m = sec l m := by
 have e : (l.take (64 * n)).length = 64 * n := by rw [List.length_take]; omega
 apply List.ext_getElem?
 intro j
 unfold sec putS
 rw [List.getElem?_take, List.getElem?_take]
 by_cases hj : j < 64
 ·rw [if_pos hj, if_pos hj, List.getElem?_drop, List.getElem?_drop]
  by_cases hlt : m < n
  ·rw [List.getElem?_append_left (by omega), List.getElem?_take, if_pos (by omega)]
  ·rw [List.getElem?_append_right (by omega), List.getElem?_append_right (by omega), List.getElem?_drop]
   congr 1
   omega
 ·rw [if_neg hj, if_neg hj]
theorem ybyx {a b : List Int} {k : Nat} (ha : a.length = 64 * k) (hb : b.length = 64 * k) (h : ∀ n, n < k → sec a n = sec b n) : a = b := by
 apply List.ext_getElem?
 intro j
 by_cases hj : j < 64 * k
 ·have := congrArg (fun l => l[j % 64]?) (h (j / 64) (by omega))
  simp only [sec, List.getElem?_take, List.getElem?_drop] at this
  rw [if_pos (by omega), if_pos (by omega), show 64 * (j / 64) + j % 64 = j by omega] at this
  exact this
 ·rw [List.getElem?_eq_none (by omega), List.getElem?_eq_none (by omega)]
section
variable {P : Program} {o : Oper} {a : Act} {w : World} {K : Act → World → Prop} {Q : Exit → Act → World → Prop}
theorem ybpn {ops : Array Oper} {X : Prop} (hgd : o.guard = none) (f : FuncId) (xs : Array Operand) (ats : Array TypeId) (ho : o.op = .call { callee := .value (.func f), args := xs, argTypes := ats })
  (hf : ∀ args w, (callFunc f args).run P w = .ok (.enter f args) w) (args : Array Value) (hargs : #[] ++ xs.map a.eval ++ #[] = args) (R : Value → World → Prop)
  (hc : Calls P f args w fun e w' => ∃ v, e = .returned v ∧ R v w') (h : ∀ v w', R v w' → K (a.put o.dst v) w') : if Region.wanted o (yielded ops a.tmps) = true then Oper.wp P o a w K Q else X := by
 rw [if_pos (by simp [Region.wanted, hgd])]
 have e : execOp a.eval o = callFunc f (#[] ++ xs.map a.eval ++ #[]) := by
  obtain ⟨dst, op, ty, pos, after, guard⟩ := o
  simp only at ho
  subst ho
  rfl
 unfold Oper.wp
 rw [e, hargs, hf]
 exact hc.mono fun e w' ⟨v, he, hr⟩ => by subst he; exact h v w' hr
def over (l : List Int) (off : Nat) (D : List Int) : List Int := l.take off ++ (D ++ l.drop (off + D.length))
theorem qyj (d s : Operand) (dT sT : TypeId) (ho : o.op = .call { callee := .builtin .copy, args := #[d, s], argTypes := #[dT, sT] }) (elem : TypeId) (hu : P.underlying dT = some (.slice elem)) (hsz : (P.info? elem).map (·.size) = some 1)
  (g off dLen dCap : Nat) (sv : Value) (hd : a.eval d = .slice (some ⟨g, off, none⟩) dLen dCap) (hs : a.eval s = sv) (cur D : List Int) (t : TypeId) (hg : w.heap[g]? = some (.cells (u8s cur).toArray t (0, 0)))
  (hb : qae w sv D) (h0 : 0 < D.length) (hle : D.length ≤ dLen) (hfit : off + D.length ≤ cur.length)
  (h : K (a.put o.dst (goInt D.length)) (w.setRow g (u8s (over cur off D)).toArray)) : o.wp P a w K Q := by
 obtain ⟨hl, ⟨hn, _⟩ | ⟨g', o', c, rfl, hc⟩⟩ := hb
 ·omega
 have hrun := run_copy_row (P := P) w dT sT o.type elem g off dLen dCap ⟨g', o', none⟩ D.length c (u8s cur).toArray t (u8s D) hu hsz hg (by rw [qak]; exact (Nat.min_eq_left hle).symm) (fun j v hv => by
  have hadd : (⟨g', o', none⟩ : Addr).add j = ⟨g', o' + j, none⟩ := by unfold Addr.add; split <;> simp_all
  rw [hadd]; exact hc j v hv) (by simp [qak]; omega) (qga D)
 have e : ((u8s cur).toArray.toList.take off ++ u8s D ++ (u8s cur).toArray.toList.drop (off + (u8s D).length)).toArray = (u8s (over cur off D)).toArray := by
  unfold over
  rw [qbf, qbf, qci, qea, qak, List.append_assoc]
 rw [e, qak] at hrun
 unfold Oper.wp
 simp [execOp, ho, resolve, invoke, builtin, hd, hs, hrun, Result.andThen]
 exact h
theorem qtf {ops : Array Oper} {X : Prop} (hgd : o.guard = none) (d s : Operand) (dT sT : TypeId) (ho : o.op = .call { callee := .builtin .copy, args := #[d, s], argTypes := #[dT, sT] }) (elem : TypeId) (hu : P.underlying dT = some (.slice elem)) (hsz : (P.info? elem).map (·.size) = some 1)
  (g off dLen dCap : Nat) (sv : Value) (hd : a.eval d = .slice (some ⟨g, off, none⟩) dLen dCap) (hs : a.eval s = sv) (cur D : List Int) (t : TypeId) (hg : w.heap[g]? = some (.cells (u8s cur).toArray t (0, 0)))
  (hb : qae w sv D) (h0 : 0 < D.length) (hle : D.length ≤ dLen) (hfit : off + D.length ≤ cur.length)
  (h : K (a.put o.dst (goInt D.length)) (w.setRow g (u8s (over cur off D)).toArray)) : if Region.wanted o (yielded ops a.tmps) = true then Oper.wp P o a w K Q else X := by
 rw [if_pos (by simp [Region.wanted, hgd])]
 exact qyj d s dT sT ho elem hu hsz g off dLen dCap sv hd hs cur D t hg hb h0 hle hfit h
def bI (s : ByteArray) : List Int := s.data.toList.map fun b => (b.toNat : Int)
theorem qui (s : ByteArray) : (bI s).length = s.size := by simp [bI]
theorem ybbc (w : World) (dT sT ty elem : TypeId) (hu : P.underlying dT = some (.slice elem)) (hsz : (P.info? elem).map (·.size) = some 1)
  (g dLen dCap : Nat) (sv : ByteArray) (cur : List Int) (t : TypeId) (hg : w.heap[g]? = some (.cells (u8s cur).toArray t (0, 0))) (hfit : cur.length = dLen) :
  (Builtin.copy_ #[dT, sT] ty #[.slice (some ⟨g, 0, none⟩) dLen dCap, .string sv]).run P w = .ok (goInt (Nat.min sv.size dLen)) (w.setRow g (u8s (over cur 0 ((bI sv).take dLen))).toArray) := by
 obtain ⟨D, hD⟩ : ∃ D, D = (bI sv).take dLen := ⟨_, rfl⟩
 have hDl : D.length ≤ dLen := by rw [hD, List.length_take]; omega
 rw [← hD]
 have hst := run_storeCells_at P g 0 t (u8s D) 0 (u8s cur).toArray w hg (by simp [qak]; omega) (qga _)
 have e : ((u8s cur).toArray.toList.take (0 + 0) ++ u8s D ++ (u8s cur).toArray.toList.drop (0 + 0 + (u8s D).length)).toArray = (u8s (over cur 0 D)).toArray := by
  unfold over
  rw [qbf, qbf, qci, qea, qak, List.append_assoc]
 rw [e] at hst
 have htk : ((sv.data.toList.map fun b : UInt8 => Value.int IntKind.u8 (b.toNat : Int)).take (Nat.min sv.size dLen)) = u8s D := by
  rw [hD, qci, show u8s (bI sv) = sv.data.toList.map fun b : UInt8 => Value.int IntKind.u8 (b.toNat : Int) by simp [u8s, bI]]
  rw [List.take_eq_take_iff]
  have : (sv.data.toList.map fun b : UInt8 => Value.int IntKind.u8 (b.toNat : Int)).length = sv.size := by rw [List.length_map]; rfl
  rw [this]
  show min (min sv.size dLen) sv.size = min dLen sv.size
  omega
 cases hq : P.info? elem with
 | none => simp [hq] at hsz
 | some i =>
  have hi : i.size = 1 := by simpa [hq] using hsz
  simp [Builtin.copy_, run_underlying hu, Builtin.lenOf, Builtin.firstCells, sizeOf, typeInfo, hq]
  rw [htk, hst]
  simp [Result.andThen]
theorem qdx (w : World) (dT sT ty elem : TypeId) (hu : P.underlying dT = some (.slice elem)) (hsz : (P.info? elem).map (·.size) = some 1)
  (g off dLen dCap : Nat) (sv : Value) (cur D : List Int) (t : TypeId) (hg : w.heap[g]? = some (.cells (u8s cur).toArray t (0, 0)))
  (hb : qae w sv D) (h0 : 0 < D.length) (hle : D.length ≤ dLen) (hfit : off + D.length ≤ cur.length) :
  (Builtin.copy_ #[dT, sT] ty #[.slice (some ⟨g, off, none⟩) dLen dCap, sv]).run P w = .ok (goInt D.length) (w.setRow g (u8s (over cur off D)).toArray) := by
 obtain ⟨hl, ⟨hn, _⟩ | ⟨g', o', c, rfl, hc⟩⟩ := hb
 ·omega
 have hrun := run_copy_row (P := P) w dT sT ty elem g off dLen dCap ⟨g', o', none⟩ D.length c (u8s cur).toArray t (u8s D) hu hsz hg (by rw [qak]; exact (Nat.min_eq_left hle).symm) (fun j v hv => by
  have hadd : (⟨g', o', none⟩ : Addr).add j = ⟨g', o' + j, none⟩ := by unfold Addr.add; split <;> simp_all
  rw [hadd]; exact hc j v hv) (by simp [qak]; omega) (qga D)
 have e : ((u8s cur).toArray.toList.take off ++ u8s D ++ (u8s cur).toArray.toList.drop (off + (u8s D).length)).toArray = (u8s (over cur off D)).toArray := by
  unfold over
  rw [qbf, qbf, qci, qea, qak, List.append_assoc]
 rw [e, qak] at hrun
 exact hrun
end
end Go.Proofs.YtpoglnpjadmbpaaGreatDoor
