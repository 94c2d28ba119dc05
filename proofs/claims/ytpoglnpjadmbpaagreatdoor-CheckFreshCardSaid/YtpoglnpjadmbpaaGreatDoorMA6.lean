/- Part of the proofs of CheckFresh, FsCut, FsHoles: the texts QTail, FactsJ. -/
import Derived.Test.YtpoglnpjadmbpaaGreatDoorMA4
import Derived.StillTail
import Derived.Deep.MidRow
set_option maxHeartbeats 16000000
namespace Go.Proofs.YtpoglnpjadmbpaaGreatDoor
open Go.RowKit
section
variable {P : Program} {ops : Array Oper} {md : Region.Mode} {C : World → Prop}
def ybms (P : Program) (md : Region.Mode) (ops : Array Oper) (C : World → Prop) (n : Nat) (T : Array Bool → Act → Prop) : Nat → Array Bool → Act → Prop
 | 0, done, a => T done a
 | f + 1, done, a => Region.ready md ops done ≠ [] ∧ ∀ i ∈ Region.ready md ops done, i < n ∧ qOp P ops C i (ybms P md ops C n T f (done.setIfInBounds i true)) a
theorem qpd {n g : Nat} {T : Array Bool → Act → Prop} {Q : Exit → Act → World → Prop} (hT : ∀ done a w, C w → T done a → wpAny P md ops Q g done a w) :
  ∀ (f : Nat) (done : Array Bool) (a : Act) (w : World), C w → ybms P md ops C n T f done a → wpAny P md ops Q (f + g) done a w
 | 0, done, a, w, hw, h => by rw [Nat.zero_add]; exact hT _ _ _ hw h
 | f + 1, done, a, w, hw, h => by
  rw [show f + 1 + g = (f + g) + 1 by omega]
  exact ⟨fun h0 => absurd h0 h.1, fun i hi => wpOp_of_qOp hw (fun a' w' hw' h' => qpd hT f _ a' w' hw' h') (h.2 i hi).2⟩
theorem ybil {n i : Nat} {oi : Oper} {v : Value} {T : Array Bool → Act → Prop} (hi : ops[i]? = some oi) (hsel : ∀ (j : Nat) (o : Oper) cs b, ops[j]? = some o → o.op ≠ .select cs b)
  (hs : Region.sinkB md ops n = true) (hc : Region.chainB md ops n = true) (hn : n < ops.size) (hin : i < n) (hT : ∀ done a, T done a → ∀ j ∈ Region.ready md ops done, n ≤ j) (f : Nat) :
  ∀ (done : Array Bool) (a : Act), HeadInv md ops n done →
   (∀ j oj, ops[j]? = some oj → j ≠ i → done.getD j true = false → (∀ e ∈ oj.after, Region.binds md e = true → e.on ≠ i) → oi.apart ops oj = true) →
   i ∈ Region.ready md ops done → YieldsIn P ops C oi v a → ybms P md ops C n T f (done.setIfInBounds i true) (a.put oi.dst v) → ybms P md ops C n T (f + 1) done a := by
 induction f with
 | zero =>
  intro done a inv _ hr hy H
  have hun := (mem_ready.1 hr).1
  refine ⟨List.ne_nil_of_mem hr, fun j hj => ?_⟩
  have hjn : j < n := Nat.lt_of_not_le fun h => tail_waits hs hc hn inv _ i rfl hin hun j h hj
  refine ⟨hjn, ?_⟩
  by_cases hji : j = i
  ·subst hji; exact hy.qOp hi H
  ·exact absurd (hT _ _ H j (ready_mono hj hji)) (by omega)
 | succ f ih =>
  intro done a inv hfree hr hy H
  have hun := (mem_ready.1 hr).1
  refine ⟨List.ne_nil_of_mem hr, fun j hj => ?_⟩
  have hjn : j < n := Nat.lt_of_not_le fun h => tail_waits hs hc hn inv _ i rfl hin hun j h hj
  refine ⟨hjn, ?_⟩
  by_cases hji : j = i
  ·subst hji; exact hy.qOp hi H
  ·obtain ⟨hjun, oj, hoj, hall⟩ := mem_ready.1 hj
   have hno : ∀ e ∈ oj.after, Region.binds md e = true → e.on ≠ i := fun e he hb heq => by
    have h1 := hall e he hb
    rw [heq, getD_both hun] at h1
    cases h1
   refine qOp_mono (fun a' h3 => ih (done.setIfInBounds j true) a' (inv.set hj hjn) ?_ (ready_mono hr (Ne.symm hji)) h3.1 ?_) (qOp_put hoj (hfree j oj hoj hji hjun hno) (fun cs b => hsel i oi cs b hi) (fun cs b => hsel j oj cs b hoj) hy (H.2 j (ready_mono hj hji)).2)
   ·intro k ok hk hki hk0 hkn
    refine hfree k ok hk hki ?_ hkn
    by_cases hjk : j = k
    ·subst hjk; exact hjun
    ·rw [getD_set_ne true hjk] at hk0; exact hk0
   ·rw [Array.setIfInBounds_comm _ _ hji]
    exact h3.2
theorem quv {n g : Nat} {T : Act → Prop} (hsel : Region.noSelect ops = true) (hs : Region.sinkB md ops n = true) (hc : Region.chainB md ops n = true) (hn : n < ops.size) :
  ∀ (l : List Oper) (k : Nat) (done : Array Bool) (a : Act), (∀ j, j < l.length → l[j]? = ops[k + j]?) → k + l.length = n → HeadInv md ops n done →
  Region.lexHead md ops g l.length k done = true → wpQuiet P ops C T l a →
  ybms P md ops C n (fun done' a' => Region.seqB md ops g n done' = true ∧ T a') l.length done a
 | [], k, done, a, _, hk, _, hB, h => by
  obtain rfl : k = n := by simpa using hk
  exact ⟨by simpa [Region.lexHead] using hB, h⟩
 | o :: l, k, done, a, hl, hk, inv, hB, h => by
  have h0 : ops[k]? = some o := by simpa using (hl 0 (by simp)).symm
  simp only [List.length_cons, Region.lexHead, Bool.and_eq_true] at hB
  obtain ⟨⟨hr, hf⟩, hB'⟩ := hB
  have hkn : k < n := by simp only [List.length_cons] at hk; omega
  have hr' : k ∈ Region.ready md ops done := by simpa using hr
  have hst : qOp P ops C k (wpQuiet P ops C T l) a := by unfold qOp; simp only [h0]; exact h
  obtain ⟨v, hy, hK⟩ := yieldsIn_of_qOp h0 hst
  exact ybil h0 (Region.noSelect_spec hsel) hs hc hn hkn (fun done' a' hL => seqB_ready hL.1) l.length done a inv (Region.free_spec h0 hf) hr' hy
   (quv hsel hs hc hn l (k + 1) _ _ (fun j hj => by have := hl (j + 1) (by simp; omega); simpa [Nat.add_assoc, Nat.add_comm 1 j] using this) (by simp only [List.length_cons] at hk; omega) (inv.set hr' hkn) hB' hK)
theorem qds {id : Nat} {Q : Exit → Act → World → Prop} {a : Act} {w : World} {l : List Oper} (n : Nat) (hm : P.follows .mixedOrders = true) (hB : Region.lexTailB .any l.toArray n = true)
  (h : wpQuiet P l.toArray (fun w' => ∃ p : Regrown, w' = Sort.grow (redrawn w p.d) p.os) (fun a' => ∀ w', (∃ p : Regrown, w' = Sort.grow (redrawn w p.d) p.os) → wpList P l.toArray Q (l.drop n) a' w') (l.take n) a) : (Code.region id l.toArray true).wp P Q a w := by
 simp only [Region.lexTailB, Bool.and_eq_true, decide_eq_true_eq] at hB
 obtain ⟨⟨⟨⟨hsel, hn⟩, hs⟩, hc⟩, hlex⟩ := hB
 have hn' : n < l.length := by simpa using hn
 have htl : (l.take n).length = n := by simp; omega
 have hdl : (l.drop n).length = l.toArray.size - n := by simp
 have inv0 : HeadInv .any l.toArray n (Array.replicate l.toArray.size false) :=
  ⟨by simp, fun j oj _ hl => (by rw [getD_replicate_false] at hl; cases hl), fun t _ ht => getD_in (by simpa using ht) (getD_replicate_false _ _)⟩
 have H := quv (md := .any) (g := l.toArray.size - n) hsel hs hc hn (l.take n) 0 _ a (fun j hj => by
  have hj' : j < n := by rw [htl] at hj; exact hj
  simp [hj']) (by simpa using htl) inv0 (by rw [htl]; exact hlex) h
 refine wp_region_any hm ?_
 have hstart : ∃ p : Regrown, ({ w with drawn := w.drawn + 1 } : World) = Sort.grow (redrawn w p.d) p.os := regrown_of_below ⟨rfl, rfl, rfl, Nat.le_refl _, fun _ _ => rfl⟩
 have := qpd (Q := Q) (g := l.toArray.size - n) (fun done a' w' hw' hL => by
  have := wpAny_of_seq (md := .any) (Q' := Q) (l.drop n) n done a' w' (fun j => by simp [List.getElem?_drop]) (by rw [hdl]; exact hL.1) (hL.2 w' hw')
  rwa [hdl] at this) _ _ _ _ hstart H
 rw [htl, show n + (l.toArray.size - n) = l.toArray.size by omega] at this
 exact this
end
end Go.Proofs.YtpoglnpjadmbpaaGreatDoor
namespace Go.Proofs.YtpoglnpjadmbpaaGreatDoor
open Go.RowKit
section
variable {P : Program} {l : List Oper}
structure FJ (J : (Nat → Bool) → (Nat → Value) → World → Prop) (m : Nat) (sl : Nat → Nat) (F : Nat → Value → Prop) (old : Nat → Value → Prop) (D : Nat → Bool) (a : Act) (u : World) : Prop where
 j : J D (fun i => a.tmps.getD (sl i) undef) u
 size : a.tmps.size = m
 dfs : a.defers = []
 old : ∀ k v, old k v → a.tmps.getD k undef = v
 fact : ∀ i, D i = true → F i (a.tmps.getD (sl i) undef)
theorem qtr {Q : Exit → Act → World → Prop} {id : Nat} {a : Act} {w : World} (hm : P.follows .mixedOrders = true) (hr : qsw l = true) (J : (Nat → Bool) → (Nat → Value) → World → Prop) (m : Nat) (sl : Nat → Nat) (F : Nat → Value → Prop) (old : Nat → Value → Prop)
  (hinj : ∀ i j, i ≠ j → sl i ≠ sl j) (hold : ∀ i k v, old k v → k ≠ sl i)
  (hsl : (l.zipIdx.all fun p => p.1.guard.isNone && p.1.dst == (if sl p.2 < m then some (sl p.2) else none)) = true)
  (h0 : a.tmps.size = m ∧ a.defers = [] ∧ (∀ k v, old k v → a.tmps.getD k undef = v) ∧ J (fun _ => false) (fun i => a.tmps.getD (sl i) undef) w.drew)
  (hstep : ∀ D a u, FJ J m sl F old D a u → ∀ i o, l[i]? = some o → D i = false → (∀ e ∈ o.after, Region.binds .any e = true → D e.on = true) →
   o.wp P a u (fun a' u' => ∃ v, a' = a.put o.dst v ∧ (m ≤ sl i → v = undef) ∧ F i v ∧ ∀ g, g i = v → (∀ k, k ≠ i → g k = a.tmps.getD (sl k) undef) → J (upd D i) g u') Q)
  (hend : ∀ D a u, FJ J m sl F old D a u → (∀ i, i < l.length → D i = true) → Q .normal a u) : (Code.region id l.toArray true).wp P Q a w := by
 refine qjc hm hr (FJ J m sl F old) ?_ ?_ hend
 ·exact ⟨h0.2.2.2, h0.1, h0.2.1, h0.2.2.1, fun i hi => by simp at hi⟩
 ·intro D a u h i o ho hD ha
  have hil : i < l.length := (List.getElem?_eq_some_iff.1 ho).1
  have hP := List.all_eq_true.1 hsl (o, i) (by rw [List.mem_zipIdx_iff_getElem?]; exact ho)
  simp only [Bool.and_eq_true, Option.isNone_iff_eq_none, beq_iff_eq] at hP
  obtain ⟨hg, hd⟩ := hP
  refine qlg hg (Oper.wp_mono ?_ (hstep D a u h i o ho hD ha))
  rintro a' u' ⟨v, rfl, hu, hF, hJ⟩
  by_cases hlt : sl i < m
  ·rw [if_pos hlt] at hd
   rw [hd]
   have hlt2 : sl i < a.tmps.size := by rw [h.size]; exact hlt
   have hsame : (a.put (some (sl i)) v).tmps.getD (sl i) undef = v := by
    show (a.tmps.setIfInBounds (sl i) v).getD (sl i) undef = v
    simp [Array.getD_eq_getD_getElem?, hlt2]
   have hoth : ∀ k, k ≠ sl i → (a.put (some (sl i)) v).tmps.getD k undef = a.tmps.getD k undef := fun k hk => by
    show (a.tmps.setIfInBounds (sl i) v).getD k undef = _
    simp only [Array.getD_eq_getD_getElem?, Array.getElem?_setIfInBounds, if_neg (Ne.symm hk)]
   refine ⟨hJ _ hsame fun k hk => hoth _ (hinj k i hk), ?_, h.dfs, fun k v hk => ?_, fun j hj => ?_⟩
   ·show (a.tmps.setIfInBounds (sl i) v).size = m
    rw [Array.size_setIfInBounds]; exact h.size
   ·rw [hoth k (hold i k v hk)]; exact h.old k v hk
   ·by_cases hji : j = i
    ·subst hji; rw [hsame]; exact hF
    ·rw [hoth _ (hinj j i hji)]; exact h.fact j (ybal hj hji)
  ·rw [if_neg hlt] at hd
   rw [hd]
   obtain rfl := hu (by omega)
   have hsame : a.tmps.getD (sl i) undef = undef := by
    have : ¬ sl i < a.tmps.size := by rw [h.size]; exact hlt
    simp only [Array.getD_eq_getD_getElem?]
    rw [Array.getElem?_eq_none (by omega)]
    rfl
   refine ⟨hJ _ hsame fun k _ => rfl, h.size, h.dfs, h.old, fun j hj => ?_⟩
   by_cases hji : j = i
   ·subst hji; show F j (a.tmps.getD (sl j) undef); rw [hsame]; exact hF
   ·exact h.fact j (ybal hj hji)
end
theorem qvn {w : World} {g o : Nat} {R A : Array Value} {t : TypeId} {fr : Nat × Nat} (h : w.heap[g]? = some (.cells R t fr)) (hp : ∀ j, j < A.size → R[o + j]? = A[j]?) : w.rangeAt g o A.toList := fun j v hv => by
 have hjA : j < A.size := by
  have := (List.getElem?_eq_some_iff.1 hv).1
  simpa using this
 rw [cell_of_row _ _ _ _ _ _ h, hp j hjA, ← hv, Array.getElem?_toList]
end Go.Proofs.YtpoglnpjadmbpaaGreatDoor
