/- What a disk is: its state, how it lies in memory, and what stays as it was. -/
import Derived.Test.YtheiaebmemcbhaaDoorU8
import Derived.Laws.CopyOwn
import Derived.Laws.CopyRow
import Derived.Lib.Hide
namespace Go.Proofs.YtheiaebmemcbhaaDoor
open Go.RowKit

theorem ret_i {k : IntKind} {a b : Int} (h : a = b) : Ending.returned (.int k a) = .returned (.int k b) := by rw [h]
/-- All blocks but those of F are as they were. -/
structure Keeps (F : Nat → Prop) (w w' : World) : Prop where
  os : w'.os = w.os
  tape : w'.tape = w.tape
  output : w'.output = w.output
  size : w.heap.size ≤ w'.heap.size
  block : ∀ i, i < w.heap.size → ¬ F i → w'.heap[i]? = w.heap[i]?

section
variable {F F1 : Nat → Prop} {w w1 w2 w' : World}
theorem Keeps.refl (F : Nat → Prop) (w : World) : Keeps F w w := ⟨rfl, rfl, rfl, Nat.le_refl _, fun _ _ _ => rfl⟩
theorem Keeps.of_below (h : Below w.heap.size w w') : Keeps F w w' := ⟨h.os, h.tape, h.output, h.size, fun i hi _ => h.block i hi⟩
theorem Keeps.trans (h : Keeps F w w1) (k : Keeps F1 w1 w2) (hF : ∀ i, F1 i → F i ∨ w.heap.size ≤ i) : Keeps F w w2 :=
  ⟨k.os.trans h.os, k.tape.trans h.tape, k.output.trans h.output, Nat.le_trans h.size k.size, fun i hi hn =>
    (k.block i (Nat.lt_of_lt_of_le hi h.size) (fun hc => by
      rcases hF i hc with h1 | h1
      · exact hn h1
      · omega)).trans (h.block i hi hn)⟩
theorem Keeps.step (h : Keeps F w w1) (k : Keeps F w1 w2) : Keeps F w w2 := h.trans k fun _ hi => Or.inl hi
theorem Keeps.mono (h : Keeps F w w') (hF : ∀ i, i < w.heap.size → F i → F1 i) : Keeps F1 w w' :=
  ⟨h.os, h.tape, h.output, h.size, fun i hi hn => h.block i hi fun hc => hn (hF i hi hc)⟩
theorem Keeps.setRow {g : Nat} (hg : F g) (cs : Array Value) : Keeps F w (w.setRow g cs) :=
  ⟨rfl, rfl, rfl, by simp, fun i _ hn => setRow_other w g i cs (fun e => hn (by rw [e]; exact hg))⟩
theorem Keeps.setCell {p : Addr} (hg : F p.block) (u : Value) : Keeps F w (w.setCell p u) :=
  ⟨rfl, rfl, rfl, by simp [World.setCell], fun i _ hn => Below.heap_setCell w p u i (fun e => hn (by rw [e]; exact hg))⟩
theorem Keeps.alloc (o : Obj) : Keeps F w (w.alloc o) := Keeps.of_below ((Below.refl _ _).alloc (Nat.le_refl _) _)
theorem Keeps.drew (h : Keeps F w w') : Keeps F w w'.drew := ⟨h.os, h.tape, h.output, h.size, h.block⟩
theorem Keeps.grown {row : Option Nat} (h : w.grownBy w' row) (hr : ∀ r, row = some r → F r) : Keeps F w w' :=
  ⟨h.os, h.tape, h.output, h.size, fun i hi hn => h.block i hi (fun e => hn (hr i e.symm))⟩
theorem Keeps.to_below {B : Nat} (h : Keeps F w w') (hF : ∀ i, F i → B ≤ i) (hB : B ≤ w.heap.size) : Below B w w' :=
  ⟨h.os, h.tape, h.output, h.size, fun i hi => h.block i (by omega) fun hc => by have := hF i hc; omega⟩
end

/-- The state of a disk: what lasts, what is read, what waits, and for how long there is power. -/
structure Dk where
  S : List Int
  N : List Int
  W : List (Nat × List Int)
  fu : Int

def ecells (E : List (Nat × Value)) : List Value := E.flatMap fun x => [.int .i64 (x.1 : Int), x.2]
theorem ecells_len (l : List (Nat × Value)) : (ecells l).length = l.length * 2 := by
  induction l with
  | nil => rfl
  | cons x l ih => simp only [ecells, List.flatMap_cons, List.length_append, List.length_cons, List.length_nil] at *; omega
theorem ecells_append (a b : List (Nat × Value)) : ecells (a ++ b) = ecells a ++ ecells b := by simp [ecells]
theorem ecells_get (l : List (Nat × Value)) (k : Nat) (hk : k < l.length) : (ecells l)[k * 2]? = some (.int .i64 (l[k].1 : Int)) ∧ (ecells l)[k * 2 + 1]? = some l[k].2 := by
  induction l generalizing k with
  | nil => simp at hk
  | cons x l ih =>
    cases k with
    | zero => simp [ecells]
    | succ k =>
      have := ih k (by simpa using hk)
      simp only [ecells, List.flatMap_cons, List.cons_append, List.nil_append] at this ⊢
      rw [show (k + 1) * 2 = k * 2 + 1 + 1 by omega, show k * 2 + 1 + 1 + 1 = (k * 2 + 1) + 1 + 1 by omega]
      simpa using this

section
variable {w w' : World} {gd gs gn : Nat} {wt : Value} {E : List (Nat × Value)} {st : Dk} {L k : Nat} {F : Nat → Prop}

theorem ne_of_type {g g' : Nat} {c c' : Array Value} {t t' : TypeId} {f f' : Nat × Nat} (h : w.heap[g]? = some (.cells c t f)) (h' : w.heap[g']? = some (.cells c' t' f')) (hne : t ≠ t') : g ≠ g' := by
  rintro rfl
  rw [h] at h'
  injection h' with h'
  injection h' with _ ht _
  exact hne ht
theorem own_ne {base : Nat} {e t : TypeId} {size n : Nat} {v : Value} {xs : List Value} {g : Nat} {cs : Array Value} {fr : Nat × Nat} (h : w.ownsRow base e size v n xs) (hg : w.heap[g]? = some (.cells cs t fr)) (hne : e ≠ t) : v.ownBlock ≠ some g := by
  rcases h.2 with ⟨rfl, _⟩ | ⟨g', cap, cur, rfl, _, hh, _⟩
  · simp [Value.ownBlock]
  · intro he
    have : g' = g := by simpa [Value.ownBlock] using he
    subst this
    exact ne_of_type hh hg hne rfl
theorem owns_keep {base : Nat} {e : TypeId} {size n : Nat} {v : Value} {xs : List Value} (h : w.ownsRow base e size v n xs) (hk : ∀ b, v.ownBlock = some b → w'.heap[b]? = w.heap[b]?) : w'.ownsRow base e size v n xs := by
  obtain ⟨h1, h2⟩ := h
  refine ⟨h1, ?_⟩
  rcases h2 with h2 | ⟨g, cap, cur, rfl, hg, hh, r⟩
  · exact Or.inl h2
  · exact Or.inr ⟨g, cap, cur, rfl, hg, (hk g rfl).trans hh, r⟩
theorem heap_setCell_at {g i : Nat} {c : Array Value} {t : TypeId} {fr : Nat × Nat} (h : w.heap[g]? = some (.cells c t fr)) (u : Value) : (w.setCell ⟨g, i, none⟩ u).heap[g]? = some (.cells (c.setIfInBounds i u) t fr) := by
  simp [World.setCell, Array.getElem?_modify, h]

end

/-- A sector of a list of bytes; the list with a sector put there. -/
def sec (l : List Int) (n : Nat) : List Int := (l.drop (64 * n)).take 64
def putS (l : List Int) (n : Nat) (D : List Int) : List Int := l.take (64 * n) ++ (D ++ l.drop (64 * n + 64))
theorem sec_len {l : List Int} {n k : Nat} (hl : l.length = 64 * k) (hn : n < k) : (sec l n).length = 64 := by
  unfold sec; rw [List.length_take, List.length_drop]; omega
theorem putS_len {l : List Int} {n k : Nat} {D : List Int} (hl : l.length = 64 * k) (hn : n < k) (hD : D.length = 64) : (putS l n D).length = 64 * k := by
  unfold putS; rw [List.length_append, List.length_append, List.length_take, List.length_drop]; omega
theorem sec_put_same {l : List Int} {n k : Nat} {D : List Int} (hl : l.length = 64 * k) (hn : n < k) (hD : D.length = 64) : sec (putS l n D) n = D := by
  unfold sec putS
  have e : (l.take (64 * n)).length = 64 * n := by rw [List.length_take]; omega
  rw [List.drop_append_of_le_length (by omega), List.drop_of_length_le (by omega), List.nil_append, List.take_append_of_le_length (by omega), List.take_of_length_le (by omega)]
theorem sec_put_other {l : List Int} {n m k : Nat} {D : List Int} (hl : l.length = 64 * k) (hn : n < k) (_hm : m < k) (hD : D.length = 64) (h : m ≠ n) : sec (putS l n D) m = sec l m := by
  have e : (l.take (64 * n)).length = 64 * n := by rw [List.length_take]; omega
  apply List.ext_getElem?
  intro j
  unfold sec putS
  rw [List.getElem?_take, List.getElem?_take]
  by_cases hj : j < 64
  · rw [if_pos hj, if_pos hj, List.getElem?_drop, List.getElem?_drop]
    by_cases hlt : m < n
    · rw [List.getElem?_append_left (by omega), List.getElem?_take, if_pos (by omega)]
    · rw [List.getElem?_append_right (by omega), List.getElem?_append_right (by omega), List.getElem?_drop]
      congr 1
      omega
  · rw [if_neg hj, if_neg hj]
/-- Two lists of k sectors that agree in each sector are one. -/
theorem sec_ext {a b : List Int} {k : Nat} (ha : a.length = 64 * k) (hb : b.length = 64 * k) (h : ∀ n, n < k → sec a n = sec b n) : a = b := by
  apply List.ext_getElem?
  intro j
  by_cases hj : j < 64 * k
  · have := congrArg (fun l => l[j % 64]?) (h (j / 64) (by omega))
    simp only [sec, List.getElem?_take, List.getElem?_drop] at this
    rw [if_pos (by omega), if_pos (by omega), show 64 * (j / 64) + j % 64 = j by omega] at this
    exact this
  · rw [List.getElem?_eq_none (by omega), List.getElem?_eq_none (by omega)]

section
variable {P : Program} {o : Oper} {a : Act} {w : World} {K : Act → World → Prop} {Q : Exit → Act → World → Prop}
/-- A call of a function of the program, as a step of a region that draws its order. -/
theorem step_call {ops : Array Oper} {X : Prop} (hgd : o.guard = none) (f : FuncId) (xs : Array Operand) (ats : Array TypeId) (ho : o.op = .call { callee := .value (.func f), args := xs, argTypes := ats })
    (hf : ∀ args w, (callFunc f args).run P w = .ok (.enter f args) w) (args : Array Value) (hargs : #[] ++ xs.map a.eval ++ #[] = args) (R : Value → World → Prop)
    (hc : Calls P f args w fun e w' => ∃ v, e = .returned v ∧ R v w') (h : ∀ v w', R v w' → K (a.put o.dst v) w') : if Region.wanted o (yielded ops a.tmps) = true then Oper.wp P o a w K Q else X := by
  rw [if_pos (by simp [Region.wanted, hgd])]
  have e : execOp a.eval o = callFunc f (#[] ++ xs.map a.eval ++ #[]) := by
    obtain ⟨dst, op, ty, pos, after, guard⟩ := o
    simp only at ho
    subst ho
    rfl
  unfold Oper.wp
  rw [e, hargs, hf]
  exact hc.mono fun e w' ⟨v, he, hr⟩ => by subst he; exact h v w' hr
/-- Bytes laid over bytes. -/
def over (l : List Int) (off : Nat) (D : List Int) : List Int := l.take off ++ (D ++ l.drop (off + D.length))
/-- copy of bytes, the row that is written being known whole. -/
theorem wp_copy_bytes (d s : Operand) (dT sT : TypeId) (ho : o.op = .call { callee := .builtin .copy, args := #[d, s], argTypes := #[dT, sT] }) (elem : TypeId) (hu : P.underlying dT = some (.slice elem)) (hsz : (P.info? elem).map (·.size) = some 1)
    (g off dLen dCap : Nat) (sv : Value) (hd : a.eval d = .slice (some ⟨g, off, none⟩) dLen dCap) (hs : a.eval s = sv) (cur D : List Int) (t : TypeId) (hg : w.heap[g]? = some (.cells (u8s cur).toArray t (0, 0)))
    (hb : BytesAt w sv D) (h0 : 0 < D.length) (hle : D.length ≤ dLen) (hfit : off + D.length ≤ cur.length)
    (h : K (a.put o.dst (goInt D.length)) (w.setRow g (u8s (over cur off D)).toArray)) : o.wp P a w K Q := by
  obtain ⟨hl, ⟨hn, _⟩ | ⟨g', o', c, rfl, hc⟩⟩ := hb
  · omega
  have hrun := run_copy_row (P := P) w dT sT o.type elem g off dLen dCap ⟨g', o', none⟩ D.length c (u8s cur).toArray t (u8s D) hu hsz hg (by rw [u8s_len]; exact (Nat.min_eq_left hle).symm) (fun j v hv => by
    have hadd : (⟨g', o', none⟩ : Addr).add j = ⟨g', o' + j, none⟩ := by unfold Addr.add; split <;> simp_all
    rw [hadd]; exact hc j v hv) (by simp [u8s_len]; omega) (u8s_one D)
  have e : ((u8s cur).toArray.toList.take off ++ u8s D ++ (u8s cur).toArray.toList.drop (off + (u8s D).length)).toArray = (u8s (over cur off D)).toArray := by
    unfold over
    rw [u8s_append, u8s_append, u8s_take, u8s_drop, u8s_len, List.append_assoc]
  rw [e, u8s_len] at hrun
  unfold Oper.wp
  simp [execOp, ho, resolve, invoke, builtin, hd, hs, hrun, Result.andThen]
  exact h
theorem wpList_copy_bytes {ops : Array Oper} {rest : List Oper} {Q : Exit → Act → World → Prop} (hgd : o.guard = none) (d s : Operand) (dT sT : TypeId) (ho : o.op = .call { callee := .builtin .copy, args := #[d, s], argTypes := #[dT, sT] }) (elem : TypeId) (hu : P.underlying dT = some (.slice elem)) (hsz : (P.info? elem).map (·.size) = some 1)
    (g off dLen dCap : Nat) (sv : Value) (hd : a.eval d = .slice (some ⟨g, off, none⟩) dLen dCap) (hs : a.eval s = sv) (cur D : List Int) (t : TypeId) (hg : w.heap[g]? = some (.cells (u8s cur).toArray t (0, 0)))
    (hb : BytesAt w sv D) (h0 : 0 < D.length) (hle : D.length ≤ dLen) (hfit : off + D.length ≤ cur.length)
    (h : wpList P ops Q rest (a.put o.dst (goInt D.length)) (w.setRow g (u8s (over cur off D)).toArray)) : wpList P ops Q (o :: rest) a w :=
  wpList_plain hgd fun _ hK => wp_copy_bytes d s dT sT ho elem hu hsz g off dLen dCap sv hd hs cur D t hg hb h0 hle hfit (hK _ _ h)
theorem step_copy_bytes {ops : Array Oper} {X : Prop} (hgd : o.guard = none) (d s : Operand) (dT sT : TypeId) (ho : o.op = .call { callee := .builtin .copy, args := #[d, s], argTypes := #[dT, sT] }) (elem : TypeId) (hu : P.underlying dT = some (.slice elem)) (hsz : (P.info? elem).map (·.size) = some 1)
    (g off dLen dCap : Nat) (sv : Value) (hd : a.eval d = .slice (some ⟨g, off, none⟩) dLen dCap) (hs : a.eval s = sv) (cur D : List Int) (t : TypeId) (hg : w.heap[g]? = some (.cells (u8s cur).toArray t (0, 0)))
    (hb : BytesAt w sv D) (h0 : 0 < D.length) (hle : D.length ≤ dLen) (hfit : off + D.length ≤ cur.length)
    (h : K (a.put o.dst (goInt D.length)) (w.setRow g (u8s (over cur off D)).toArray)) : if Region.wanted o (yielded ops a.tmps) = true then Oper.wp P o a w K Q else X := by
  rw [if_pos (by simp [Region.wanted, hgd])]
  exact wp_copy_bytes d s dT sT ho elem hu hsz g off dLen dCap sv hd hs cur D t hg hb h0 hle hfit h

/-- The bytes of a string. -/
def bI (s : ByteArray) : List Int := s.data.toList.map fun b => (b.toNat : Int)
/-- A sector that begins with a string. -/
def secS (s : ByteArray) : List Int := (bI s).take 64 ++ List.replicate (64 - (bI s).length) 0
theorem bI_len (s : ByteArray) : (bI s).length = s.size := by simp [bI]
theorem secS_len (s : ByteArray) : (secS s).length = 64 := by unfold secS; rw [List.length_append, List.length_take, List.length_replicate]; omega
theorem over_zeros (s : ByteArray) : over (List.replicate 64 0) 0 ((bI s).take 64) = secS s := by
  unfold over secS
  rw [List.take_zero, List.nil_append, Nat.zero_add, List.drop_replicate, List.length_take]
  congr 2
  omega
theorem run_copy_str (w : World) (dT sT ty elem : TypeId) (hu : P.underlying dT = some (.slice elem)) (hsz : (P.info? elem).map (·.size) = some 1)
    (g dLen dCap : Nat) (sv : ByteArray) (cur : List Int) (t : TypeId) (hg : w.heap[g]? = some (.cells (u8s cur).toArray t (0, 0))) (hfit : cur.length = dLen) :
    (Builtin.copy_ #[dT, sT] ty #[.slice (some ⟨g, 0, none⟩) dLen dCap, .string sv]).run P w = .ok (goInt (Nat.min sv.size dLen)) (w.setRow g (u8s (over cur 0 ((bI sv).take dLen))).toArray) := by
  obtain ⟨D, hD⟩ : ∃ D, D = (bI sv).take dLen := ⟨_, rfl⟩
  have hDl : D.length ≤ dLen := by rw [hD, List.length_take]; omega
  rw [← hD]
  have hst := run_storeCells_at P g 0 t (u8s D) 0 (u8s cur).toArray w hg (by simp [u8s_len]; omega) (u8s_one _)
  have e : ((u8s cur).toArray.toList.take (0 + 0) ++ u8s D ++ (u8s cur).toArray.toList.drop (0 + 0 + (u8s D).length)).toArray = (u8s (over cur 0 D)).toArray := by
    unfold over
    rw [u8s_append, u8s_append, u8s_take, u8s_drop, u8s_len, List.append_assoc]
  rw [e] at hst
  have htk : ((sv.data.toList.map fun b : UInt8 => Value.int IntKind.u8 (b.toNat : Int)).take (Nat.min sv.size dLen)) = u8s D := by
    rw [hD, u8s_take, show u8s (bI sv) = sv.data.toList.map fun b : UInt8 => Value.int IntKind.u8 (b.toNat : Int) by simp [u8s, bI]]
    rw [List.take_eq_take_iff]
    have : (sv.data.toList.map fun b : UInt8 => Value.int IntKind.u8 (b.toNat : Int)).length = sv.size := by rw [List.length_map]; rfl
    rw [this]
    show min (min sv.size dLen) sv.size = min dLen sv.size
    omega
  cases hq : P.info? elem with
  | none => simp [hq] at hsz
  | some i =>
    have hi : i.size = 1 := by simpa [hq] using hsz
    simp [Builtin.copy_, run_underlying hu, Builtin.lenOf, Builtin.firstCells, sizeOf, typeInfo, hq]
    rw [htk, hst]
    simp [Result.andThen]
/-- copy of bytes, as an equation. -/
theorem run_copy_bytes (w : World) (dT sT ty elem : TypeId) (hu : P.underlying dT = some (.slice elem)) (hsz : (P.info? elem).map (·.size) = some 1)
    (g off dLen dCap : Nat) (sv : Value) (cur D : List Int) (t : TypeId) (hg : w.heap[g]? = some (.cells (u8s cur).toArray t (0, 0)))
    (hb : BytesAt w sv D) (h0 : 0 < D.length) (hle : D.length ≤ dLen) (hfit : off + D.length ≤ cur.length) :
    (Builtin.copy_ #[dT, sT] ty #[.slice (some ⟨g, off, none⟩) dLen dCap, sv]).run P w = .ok (goInt D.length) (w.setRow g (u8s (over cur off D)).toArray) := by
  obtain ⟨hl, ⟨hn, _⟩ | ⟨g', o', c, rfl, hc⟩⟩ := hb
  · omega
  have hrun := run_copy_row (P := P) w dT sT ty elem g off dLen dCap ⟨g', o', none⟩ D.length c (u8s cur).toArray t (u8s D) hu hsz hg (by rw [u8s_len]; exact (Nat.min_eq_left hle).symm) (fun j v hv => by
    have hadd : (⟨g', o', none⟩ : Addr).add j = ⟨g', o' + j, none⟩ := by unfold Addr.add; split <;> simp_all
    rw [hadd]; exact hc j v hv) (by simp [u8s_len]; omega) (u8s_one D)
  have e : ((u8s cur).toArray.toList.take off ++ u8s D ++ (u8s cur).toArray.toList.drop (off + (u8s D).length)).toArray = (u8s (over cur off D)).toArray := by
    unfold over
    rw [u8s_append, u8s_append, u8s_take, u8s_drop, u8s_len, List.append_assoc]
  rw [e, u8s_len] at hrun
  exact hrun
end

end Go.Proofs.YtheiaebmemcbhaaDoor
