/- Part of the proofs of CheckFresh, FsCut, FsHoles: the texts MapZ. -/
import Derived.Maps.RangeWalk
import Derived.Maps.OwnSet
import Derived.Maps.OwnOps
import Derived.Maps.Ext
import Derived.Lib.Hide
import Derived.WalkSpells
set_option maxHeartbeats 16000000
namespace Go.Proofs.YtpoglnpjadmbpaaGreatDoor
open Go.RowKit Go.Maps
open Go (World.grownBy)
def InZ (x : Int) : Prop := -9223372036854775808 ≤ x ∧ x ≤ 9223372036854775807
def putZ {α : Type} : List (Int × α) → Int → α → List (Int × α)
 | [], k, v => [(k, v)]
 | y :: r, k, v => if k < y.1 then (k, v) :: y :: r else if k = y.1 then (k, v) :: r else y :: putZ r k v
def getZ {α : Type} : List (Int × α) → Int → Option α
 | [], _ => none
 | y :: r, k => if y.1 = k then some y.2 else getZ r k
def delZ {α : Type} (l : List (Int × α)) (k : Int) : List (Int × α) := l.filter fun y => !decide (y.1 = k)
def qdc {α : Type} (l : List (Int × α)) : Prop := l.Pairwise fun a b => a.1 < b.1
def hasZ {α : Type} (l : List (Int × α)) (k : Int) : Bool := (getZ l k).isSome
theorem qdc.tail {α : Type} {y : Int × α} {r : List (Int × α)} (h : qdc (y :: r)) : qdc r := (List.pairwise_cons.1 h).2
theorem qdc.head {α : Type} {y : Int × α} {r : List (Int × α)} (h : qdc (y :: r)) : ∀ z ∈ r, y.1 < z.1 := (List.pairwise_cons.1 h).1
theorem qer {α : Type} {k : Int} {v : α} : ∀ {l : List (Int × α)} {z : Int × α}, z ∈ putZ l k v → z = (k, v) ∨ z ∈ l
 | [], z, h => by simpa [putZ] using h
 | y :: r, z, h => by
  unfold putZ at h
  split at h
  ·rcases List.mem_cons.1 h with h | h
   ·exact Or.inl h
   ·exact Or.inr h
  ·split at h
   ·rcases List.mem_cons.1 h with h | h
    ·exact Or.inl h
    ·exact Or.inr (List.mem_cons_of_mem _ h)
   ·rcases List.mem_cons.1 h with h | h
    ·exact Or.inr (h ▸ List.mem_cons_self)
    ·rcases qer h with h | h
     ·exact Or.inl h
     ·exact Or.inr (List.mem_cons_of_mem _ h)
theorem qfu {α : Type} (k : Int) (v : α) : ∀ {l : List (Int × α)}, qdc l → qdc (putZ l k v)
 | [], _ => List.pairwise_cons.2 ⟨by simp, List.Pairwise.nil⟩
 | y :: r, h => by
  unfold putZ
  split
  ·rename_i hk
   refine List.pairwise_cons.2 ⟨fun z hz => ?_, h⟩
   rcases List.mem_cons.1 hz with rfl | hz
   ·exact hk
   ·have := h.head z hz
    show k < z.1
    omega
  ·split
   ·rename_i hk
    exact List.pairwise_cons.2 ⟨fun z hz => by have := h.head z hz; show k < z.1; omega, h.tail⟩
   ·rename_i h1 h2
    refine List.pairwise_cons.2 ⟨fun z hz => ?_, qfu k v h.tail⟩
    rcases qer hz with rfl | hz
    ·show y.1 < k
     omega
    ·exact h.head z hz
theorem qyz {α : Type} (k : Int) {l : List (Int × α)} (h : qdc l) : qdc (delZ l k) := h.filter _
theorem ybfb {α : Type} {k : Int} {l : List (Int × α)} {z : Int × α} (h : z ∈ delZ l k) : z ∈ l := (List.mem_filter.1 h).1
theorem qeq {α : Type} (k : Int) (v : α) : ∀ (l : List (Int × α)), (putZ l k v).length ≤ l.length + 1
 | [] => by simp [putZ]
 | y :: r => by
  unfold putZ
  have := qeq k v r
  split
  ·simp
  ·split
   ·simp
   ·simp only [List.length_cons]; omega
theorem qwx {α : Type} {k : Int} {v : α} : ∀ {l : List (Int × α)}, getZ l k = some v → (k, v) ∈ l
 | [], h => by simp [getZ] at h
 | y :: r, h => by
  unfold getZ at h
  split at h
  ·rename_i e
   cases h
   subst e
   exact List.mem_cons_self
  ·exact List.mem_cons_of_mem _ (qwx h)
theorem qdj {α : Type} {k : Int} {v : α} : ∀ {l : List (Int × α)}, qdc l → (k, v) ∈ l → getZ l k = some v
 | y :: r, hr, h => by
  unfold getZ
  rcases List.mem_cons.1 h with h | h
  ·subst h
   rw [if_pos rfl]
  ·have := hr.head _ h
   rw [if_neg (by intro e; simp only [e] at this; omega)]
   exact qdj hr.tail h
def qyf (v : Value) : Option (DataW Value × List MemPlace) := some (.held v, [])
def encZ (x : Int × Value) : Lit × DataW Value := (.int .i64 x.1, .held x.2)
def MapL (P : Program) (K : TypeId) (w : World) (b : Nat) (l : List (Int × Value)) : Prop :=
 w.ownsMap P K qyf b l.length (.map (l.map encZ)) ∧ qdc l ∧ (∀ x ∈ l, InZ x.1)
section
variable {P : Program} {K T E : TypeId} {w w' : World} {b : Nat} {l : List (Int × Value)}
theorem wf_z {x : Int} (h : InZ x) : (Lit.int .i64 x).wf = true := WalkArith.wf_i64 ⟨h.1, h.2⟩
theorem ybtb (hK : P.underlying K = some (.int .i64)) {x : Int} (h : InZ x) : keyOf P K (.int .i64 x) = some (.int .i64 x) := keyOf_int_mk hK (wf_z h)
theorem MapL.lt (h : MapL P K w b l) : b < w.heap.size := h.1.lt
theorem MapL.made (w : World) : MapL P K (w.alloc (.map #[] 0)) w.heap.size [] := ⟨World.ownsMap_made _ _ _ _, List.Pairwise.nil, by simp⟩
theorem MapL.of_block (h : MapL P K w b l) (hb : w'.heap[b]? = w.heap[b]?) : MapL P K w' b l := by
 obtain ⟨⟨es, clock, h1, h2⟩, h3⟩ := h
 exact ⟨⟨es, clock, hb.trans h1, h2⟩, h3⟩
theorem ybgs (x k : Int) : (Lit.int .i64 x).sameKey (.int .i64 k) = decide (x = k) := by simp [Lit.sameKey]
theorem qrm (l : List (Int × Value)) (k : Int) : (l.map encZ).filter (fun p => !p.1.sameKey (.int .i64 k)) = (delZ l k).map encZ := by
 unfold delZ
 rw [List.filter_map]
 congr 1
 apply List.filter_congr
 intro x _
 show (!(Lit.int .i64 x.1).sameKey (.int .i64 k)) = _
 rw [ybgs]
theorem qry (k : Int) (v : Value) : ∀ {l : List (Int × Value)}, qdc l → DataW.insert (encZ (k, v)) ((delZ l k).map encZ) = (putZ l k v).map encZ
 | [], _ => rfl
 | y :: r, h => by
  have ih := qry k v h.tail
  have hall : ∀ z ∈ r, y.1 < z.1 := h.head
  unfold delZ at *
  rw [List.filter_cons, putZ]
  by_cases h1 : k < y.1
  ·rw [if_pos h1, if_pos (by simp; omega)]
   have e : r.filter (fun y => !decide (y.1 = k)) = r := by
    apply List.filter_eq_self.2
    intro z hz
    have := hall z hz
    simp; omega
   rw [e, List.map_cons, DataW.insert, if_pos (by show decide (k < y.1) = true; simpa using h1)]
   rfl
  ·rw [if_neg h1]
   by_cases h2 : k = y.1
   ·rw [if_pos h2, if_neg (by simp [h2])]
    have e : r.filter (fun y => !decide (y.1 = k)) = r := by
     apply List.filter_eq_self.2
     intro z hz
     have := hall z hz
     simp; omega
    rw [e]
    cases r with
    | nil => rfl
    | cons z r =>
     have := hall z List.mem_cons_self
     rw [List.map_cons, DataW.insert, if_pos (by show decide (k < z.1) = true; simp; omega)]
     rfl
   ·rw [if_neg h2, if_pos (by simp; omega), List.map_cons, DataW.insert, if_neg (by show ¬ decide (k < y.1) = true; simpa using h1), ih]
    rfl
theorem qwd (k : Int) (zd : DataW Value) : ∀ (l : List (Int × Value)), (DataW.map (l.map encZ)).atKey (.int .i64 k) zd = ((getZ l k).map DataW.held).getD zd
 | [] => rfl
 | y :: r => by
  have ih := qwd k zd r
  unfold DataW.atKey at ih ⊢
  simp only [List.map_cons, List.find?_cons] at ih ⊢
  have e : (encZ y).1.sameKey (.int .i64 k) = decide (y.1 = k) := ybgs _ _
  rw [e, getZ]
  by_cases hk : y.1 = k
  ·rw [if_pos hk, decide_eq_true hk]; rfl
  ·rw [if_neg hk, decide_eq_false hk]
   exact ih
theorem qxa (k : Int) : ∀ (l : List (Int × Value)), Maps.has (DataW.map (l.map encZ)) (.int .i64 k) = hasZ l k
 | [] => rfl
 | y :: r => by
  have ih := qxa k r
  unfold hasZ at ih ⊢
  rw [has_eq] at ih ⊢
  simp only [List.map_cons, List.any_cons]
  rw [ih]
  show ((Lit.int .i64 y.1).sameKey (.int .i64 k) || _) = _
  rw [ybgs, getZ]
  by_cases hk : y.1 = k
  ·rw [if_pos hk, decide_eq_true hk]; rfl
  ·rw [if_neg hk, decide_eq_false hk]; rfl
theorem ybbw {v : Value} {x : Value} {ps : List MemPlace} (h : qyf v = some (.held x, ps)) : v = x := by
 unfold qyf at h
 simp only [Option.some.injEq, Prod.mk.injEq, DataW.held.injEq] at h
 exact h.1
theorem MapL.look (h : MapL P K w b l) (hK : P.underlying K = some (.int .i64)) (hT : P.underlying T = some (.map K E)) {z : Value} (hz : (zeroValue E).run P w = .ok z w) {k : Int} (hk : InZ k) :
  (Instr.lookup T (.map (some b)) (.int .i64 k) false).run P w = .ok ((getZ l k).getD z) w := by
 obtain ⟨v, ps, hr, hv⟩ := h.1.lookup (int_keyed hK) hT hz (zd := .held z) (zp := []) rfl (ybtb hK hk)
 rw [qwd] at hv
 have e : ((getZ l k).map DataW.held).getD (.held z) = .held ((getZ l k).getD z) := by cases getZ l k <;> rfl
 rw [e] at hv
 rw [hr, ybbw hv]
theorem MapL.look_ok (h : MapL P K w b l) (hK : P.underlying K = some (.int .i64)) (hT : P.underlying T = some (.map K E)) {z : Value} (hz : (zeroValue E).run P w = .ok z w) {k : Int} (hk : InZ k) :
  (Instr.lookup T (.map (some b)) (.int .i64 k) true).run P w = .ok (.tuple #[(getZ l k).getD z, .bool (hasZ l k)]) w := by
 obtain ⟨v, ps, hr, hv⟩ := h.1.look_ok (int_keyed hK) hT hz (zd := .held z) (zp := []) rfl (ybtb hK hk)
 rw [qwd] at hv
 have e : ((getZ l k).map DataW.held).getD (.held z) = .held ((getZ l k).getD z) := by cases getZ l k <;> rfl
 rw [e] at hv
 rw [hr, ybbw hv, qxa]
theorem MapL.len (h : MapL P K w b l) (hT : P.underlying T = some (.map K E)) (ty : TypeId) : (Builtin.len_ #[T] ty #[.map (some b)]).run P w = .ok (.int .i64 (l.length : Int)) w := by
 rw [h.1.len hT ty]
 simp [Maps.size]
theorem MapL.shrink {n : Nat} (h : w.ownsMap P K qyf b n (.map (l.map encZ))) : w.ownsMap P K qyf b l.length (.map (l.map encZ)) := by
 obtain ⟨es, clock, hb, F, hs, hD⟩ := h
 refine ⟨es, clock, hb, F, ?_, hD⟩
 have : l.length = es.size := by
  have := congrArg Maps.size hD
  simpa [Maps.size, length_sorted] using this
 omega
theorem MapL.store (h : MapL P K w b l) (hK : P.underlying K = some (.int .i64)) (hT : P.underlying T = some (.map K E)) (hn : l.length < 1000000) {k : Int} (hk : InZ k) (v : Value) :
  ∃ w', (Instr.mapUpdate T (.map (some b)) (.int .i64 k) v).run P w = .ok () w' ∧ MapL P K w' b (putZ l k v) ∧ w.mapTurned w' b := by
 obtain ⟨w', hr, ho, ht⟩ := h.1.store (int_keyed hK) hT (by unfold maxLen; omega) (ybtb hK hk) (d := .held v) (ps := []) (val := v) rfl
 refine ⟨w', hr, ⟨MapL.shrink (n := l.length + 1) ?_, qfu k v h.2.1, fun x hx => ?_⟩, ht⟩
 ·have e : (DataW.map (l.map encZ)).put (.int .i64 k) (.held v) = .map ((putZ l k v).map encZ) := by
   show DataW.map (DataW.insert (encZ (k, v)) ((l.map encZ).filter fun p => !p.1.sameKey (.int .i64 k))) = _
   rw [qrm, qry k v h.2.1]
  rw [e] at ho
  exact ho
 ·rcases qer hx with rfl | hx
  ·exact hk
  ·exact h.2.2 x hx
theorem MapL.drop (h : MapL P K w b l) (hK : P.underlying K = some (.int .i64)) (hT : P.underlying T = some (.map K E)) {k : Int} (hk : InZ k) (ty : TypeId) :
  ∃ w', (Builtin.delete_ #[T, K] ty #[.map (some b), .int .i64 k]).run P w = .ok (.tuple #[]) w' ∧ MapL P K w' b (delZ l k) ∧ w.mapTurned w' b := by
 obtain ⟨w', hr, ho, ht⟩ := h.1.drop (int_keyed hK) hT (ybtb hK hk) ty
 refine ⟨w', hr, ⟨MapL.shrink (n := l.length) ?_, qyz k h.2.1, fun x hx => h.2.2 x (ybfb hx)⟩, ht⟩
 have e : (DataW.map (l.map encZ)).del (.int .i64 k) = .map ((delZ l k).map encZ) := by
  show DataW.map ((l.map encZ).filter fun p => !p.1.sameKey (.int .i64 k)) = _
  rw [qrm]
 rw [e] at ho
 exact ho
def qef (P : Program) (K : TypeId) (w : World) (b r : Nat) (l done : List (Int × Value)) (cnt : Nat) : Prop :=
 qdc l ∧ (∀ x ∈ l, InZ x.1) ∧ (done.map (·.1)).Nodup ∧ (∀ x ∈ done, x ∈ l) ∧ ∃ left, w.ranges P K qyf b r l.length (.map (l.map encZ)) left cnt ∧ ∀ x, InZ x → left (.int .i64 x) = (hasZ l x && !(done.map (·.1)).contains x)
theorem qef.map {r : Nat} {done : List (Int × Value)} {cnt : Nat} (h : qef P K w b r l done cnt) : MapL P K w b l := by
 obtain ⟨h1, h2, _, _, left, h3, _⟩ := h
 exact ⟨h3.owns, h1, h2⟩
theorem qef.lt {r : Nat} {done : List (Int × Value)} {cnt : Nat} (h : qef P K w b r l done cnt) : r < w.heap.size := by
 obtain ⟨h1, h2, _, _, left, h3, _⟩ := h
 exact h3.lt
theorem qef.left_eq {r : Nat} {done : List (Int × Value)} {cnt : Nat} (h : qef P K w b r l done cnt) : w.rangeLeft b r = cnt := by
 obtain ⟨h1, h2, _, _, left, h3, _⟩ := h
 exact h3.left_eq
theorem qef.of_block {r : Nat} {done : List (Int × Value)} {cnt : Nat} (h : qef P K w b r l done cnt) (hb : w'.heap[b]? = w.heap[b]?) (hr : w'.heap[r]? = w.heap[r]?) : qef P K w' b r l done cnt := by
 obtain ⟨h1, h2, h3, h4, left, ⟨es, clock, since, seen, c0, q1, q2, q3, q4, q5, q6⟩, h5⟩ := h
 exact ⟨h1, h2, h3, h4, left, ⟨es, clock, since, seen, c0, hb.trans q1, q2, q3, q4, hr.trans q5, q6⟩, h5⟩
theorem qni : ∀ {xs ys : List Int}, xs.Nodup → xs ⊆ ys → xs.length ≤ ys.length
 | [], _, _, _ => Nat.zero_le _
 | x :: xs, ys, h, hs => by
  obtain ⟨h1, h2⟩ := List.nodup_cons.1 h
  have hx : x ∈ ys := hs List.mem_cons_self
  have ih := qni (ys := ys.erase x) h2 (fun z hz => (List.mem_erase_of_ne (fun e : z = x => h1 (e ▸ hz))).2 (hs (List.mem_cons_of_mem _ hz)))
  rw [List.length_erase_of_mem hx] at ih
  have : 0 < ys.length := List.length_pos_of_mem hx
  simp only [List.length_cons]
  omega
theorem ybix {l done : List (Int × Value)} (h1 : qdc l) (h3 : (done.map (·.1)).Nodup) (h4 : ∀ x ∈ done, x ∈ l) (h5 : ∀ x ∈ l, x.1 ∈ done.map (·.1)) : done.Perm l := by
 have n1 : done.Nodup := List.Pairwise.of_map _ (fun a b hne e => hne (by rw [e])) h3
 have n2 : l.Nodup := h1.imp fun h e => by rw [e] at h; omega
 refine (List.perm_ext_iff_of_nodup n1 n2).2 fun a => ⟨h4 a, fun ha => ?_⟩
 obtain ⟨c, hc, e⟩ := List.mem_map.1 (h5 a ha)
 have hcl := h4 c hc
 have e1 := qdj h1 (k := a.1) (v := a.2) ha
 have e2 := qdj h1 (k := c.1) (v := c.2) hcl
 rw [e, e1] at e2
 have e3 : a.2 = c.2 := Option.some.inj e2
 have : c = a := Prod.ext e e3.symm
 exact this ▸ hc
end
section
variable {P : Program} (w : World) {ops : Array Oper} {rest : List Oper} {o : Oper} {a : Act} {Q : Exit → Act → World → Prop}
theorem qfm (hg : o.guard = none) (m : Operand) (t : TypeId) (hop : o.op = Op.range t m) (K E : TypeId) (hK0 : P.underlying K = some (.int .i64)) (ht : P.underlying t = some (.map K E)) (b : Nat) (l : List (Int × Value))
  (hm : a.eval m = .map (some b)) (h : MapL P K w b l)
  (hK : ∀ w', qef P K w' b w.heap.size l [] l.length → w.grownBy w' none → w'.heap.size = w.heap.size + 1 → wpList P ops Q rest (a.put o.dst (.pointer (some ⟨w.heap.size, 0, none⟩))) w') :
  wpList P ops Q (o :: rest) a w := by
 refine wpList_range_own w hg m t hop K E (int_keyed hK0) ht qyf b l.length (.map (l.map encZ)) hm h.1 fun w' hr hgr hs => hK w' ⟨h.2.1, h.2.2, by simp, by simp, Maps.has (DataW.map (l.map encZ)), ?_, fun x _ => ?_⟩ hgr hs
 ·have e : Maps.size (DataW.map (l.map encZ)) = l.length := by simp [Maps.size]
  rw [e] at hr
  exact hr
 ·rw [qxa]; simp
theorem qgm (hg : o.guard = none) (it : Operand) (hop : o.op = Op.next it false) (K : TypeId) (hK0 : P.underlying K = some (.int .i64)) (b r : Nat) (l done : List (Int × Value)) (cnt : Nat)
  (hit : a.eval it = .pointer (some ⟨r, 0, none⟩)) (h : qef P K w b r l done cnt)
  (hDone : done.Perm l → wpList P ops Q rest (a.put o.dst (.tuple #[.bool false])) w)
  (hMore : ∀ (x : Int) (c : Value) (w' : World) (cnt' : Nat), InZ x → (x, c) ∈ l → x ∉ done.map (·.1) → done.length < l.length → qef P K w' b r l (done ++ [(x, c)]) cnt' → cnt' < cnt →
   w.grownBy w' (some r) → w'.heap.size = w.heap.size → (Instr.entry (.pointer (some ⟨r, 0, none⟩))).run P w' = .ok (.tuple #[.int .i64 x, c]) w' → wpList P ops Q rest (a.put o.dst (.tuple #[.bool true, .int .i64 x, c])) w') :
  wpList P ops Q (o :: rest) a w := by
 obtain ⟨h1, h2, h3, h4, left, h5, h6⟩ := h
 refine wpList_next_ranges (α := Int) (β := Value) w hg it hop K (int_keyed hK0) qyf (Value.int .i64) id (fun key kl hk => by obtain ⟨x, rfl, _⟩ := Maps.keyOf_int_inv hK0 hk; exact ⟨x, rfl⟩) (fun v _ _ => ⟨v, rfl⟩) b r l.length _ left cnt hit h5 (fun _ hl => hDone ?_) ?_
 ·refine ybix h1 h3 h4 fun x hx => ?_
  have e := hl (.int .i64 x.1)
  rw [h6 x.1 (h2 x hx)] at e
  have hg : hasZ l x.1 = true := by unfold hasZ; rw [qdj h1 (k := x.1) (v := x.2) hx]; rfl
  rw [hg] at e
  simpa using e
 ·intro x c kl y w' cnt' hkey hlk hv hat hrg hlt hgr hsz hen
  obtain ⟨x', ex, rfl, hwx⟩ := Maps.keyOf_int_inv hK0 hkey
  cases ex
  have hx : InZ x := by
   simp only [Lit.wf, Bool.and_eq_true, decide_eq_true_eq] at hwx
   have e1 : IntKind.i64.min = -9223372036854775808 := rfl
   have e2 : IntKind.i64.max = 9223372036854775807 := rfl
   rw [e1, e2] at hwx
   exact hwx
  have hl := h6 x hx
  rw [hlk] at hl
  have hl' : hasZ l x = true ∧ x ∉ done.map (·.1) := by
   have := hl.symm
   simp only [Bool.and_eq_true, Bool.not_eq_true', List.contains_eq_mem, decide_eq_false_iff_not] at this
   exact this
  obtain ⟨v, hgv⟩ : ∃ v, getZ l x = some v := Option.isSome_iff_exists.1 hl'.1
  have hc : v = c := by
   have := hat (.held c)
   rw [qwd, hgv] at this
   unfold qyf at hv
   cases hv
   simpa using this
  subst hc
  have hmem := qwx hgv
  have hlen : done.length < l.length := by
   have hsub : (done.map (·.1) ++ [x]).Nodup := List.nodup_append.2 ⟨h3, by simp, fun a ha b hb e => hl'.2 (by simp at hb; rw [← hb, ← e]; exact ha)⟩
   have hss : (done.map (·.1) ++ [x]) ⊆ l.map (·.1) := fun z hz => by
    rcases List.mem_append.1 hz with hz | hz
    ·obtain ⟨y, hy, rfl⟩ := List.mem_map.1 hz
     exact List.mem_map.2 ⟨y, h4 y hy, rfl⟩
    ·simp at hz
     subst hz
     exact List.mem_map.2 ⟨_, hmem, rfl⟩
   have := qni hsub hss
   simp at this
   omega
  refine hMore x v w' cnt' hx hmem hl'.2 hlen ⟨h1, h2, ?_, ?_, _, hrg, fun z hz => ?_⟩ hlt hgr hsz hen
  ·rw [List.map_append]
   exact List.nodup_append.2 ⟨h3, by simp, fun a ha b hb e => hl'.2 (by simp at hb; rw [← hb, ← e]; exact ha)⟩
  ·intro q hq
   rcases List.mem_append.1 hq with hq | hq
   ·exact h4 q hq
   ·simp at hq
    subst hq
    exact hmem
  ·show (left (.int .i64 z) && !(Lit.int .i64 z).sameKey (.int .i64 x)) = _
   rw [h6 z hz, ybgs]
   by_cases hzx : z = x
   ·subst hzx
    simp
   ·have : ((done ++ [(x, v)]).map (·.1)).contains z = (done.map (·.1)).contains z := by simp [hzx]
    rw [this, decide_eq_false hzx]
    simp
theorem qho (hg : o.guard = none) (m x v : Operand) (t : TypeId) (hop : o.op = Op.mapUpdate t m x v)
  (K E : TypeId) (hK0 : P.underlying K = some (.int .i64)) (ht : P.underlying t = some (.map K E)) (b : Nat) (l : List (Int × Value)) (k : Int) (val : Value)
  (hm : a.eval m = .map (some b)) (h : MapL P K w b l) (hn : l.length < 1000000) (hx : a.eval x = .int .i64 k) (hv : a.eval v = val) (hk : InZ k)
  (hK : ∀ w', MapL P K w' b (putZ l k val) → w.mapTurned w' b → wpList P ops Q rest (a.put o.dst undef) w') :
  wpList P ops Q (o :: rest) a w := by
 refine wpList_plain hg fun K' hK' => ?_
 obtain ⟨w', hrun, r1, r2⟩ := h.store hK0 ht hn hk val
 unfold Oper.wp
 simp [execOp, hop, hm, hx, hv, hrun, Result.andThen]
 exact hK' _ _ (hK w' r1 r2)
theorem qtp (hg : o.guard = none) (m x : Operand) (t K : TypeId) (hop : o.op = Op.call { callee := Callee.builtin Builtin.delete, args := #[m, x], argTypes := #[t, K] })
  (E : TypeId) (hK0 : P.underlying K = some (.int .i64)) (ht : P.underlying t = some (.map K E)) (b : Nat) (l : List (Int × Value)) (k : Int)
  (hm : a.eval m = .map (some b)) (h : MapL P K w b l) (hx : a.eval x = .int .i64 k) (hk : InZ k)
  (hK : ∀ w', MapL P K w' b (delZ l k) → w.mapTurned w' b → wpList P ops Q rest (a.put o.dst (.tuple #[])) w') :
  wpList P ops Q (o :: rest) a w := by
 refine wpList_plain hg fun K' hK' => ?_
 obtain ⟨w', hrun, r1, r2⟩ := h.drop hK0 ht hk o.type
 unfold Oper.wp
 simp [execOp, hop, resolve, invoke, builtin, hm, hx, hrun, Result.andThen]
 exact hK' _ _ (hK w' r1 r2)
end
end Go.Proofs.YtpoglnpjadmbpaaGreatDoor
