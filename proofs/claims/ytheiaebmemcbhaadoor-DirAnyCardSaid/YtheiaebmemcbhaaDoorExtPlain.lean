/- Slices that read as lists; the runs of package extent, plainly. -/
import Derived.Test.YtheiaebmemcbhaaDoorLaws
namespace Go.Proofs.YtheiaebmemcbhaaDoor
open Go.RowKit

/-- The slice v reads as n elements of k cells each: the cells xs. -/
def RowAt (w : World) (v : Value) (k n : Nat) (xs : List Value) : Prop :=
  xs.length = n * k ∧ ((n = 0 ∧ ∃ a cap, v = .slice a 0 cap) ∨ ∃ g off cap, v = .slice (some ⟨g, off, none⟩) n cap ∧ ∀ (j : Nat) (x : Value), xs[j]? = some x → w.cell? ⟨g, off + j, none⟩ = some x)
def ints (l : List Int) : List Value := l.map fun n => Value.int .i64 n
/-- The slice v reads as the list l of ints. -/
def IntsAt (w : World) (v : Value) (l : List Int) : Prop := RowAt w v 1 l.length (ints l)

theorem RowAt.below {w w' : World} {v : Value} {k n : Nat} {xs : List Value} (h : RowAt w v k n xs) (hb : Below w.heap.size w w') : RowAt w' v k n xs := by
  obtain ⟨h1, h2⟩ := h
  refine ⟨h1, h2.imp id ?_⟩
  rintro ⟨g, off, cap, hv, hc⟩
  exact ⟨g, off, cap, hv, fun j x hx => (hb.cell (block_lt_of_cell (hc j x hx))).trans (hc j x hx)⟩
theorem RowAt.of_owns {w : World} {base : Nat} {e : TypeId} {v : Value} {k n : Nat} {xs : List Value} (h : w.ownsRow base e k v n xs) : RowAt w v k n xs := by
  obtain ⟨h1, h2⟩ := h
  refine ⟨h1, h2.imp (fun ⟨a, b⟩ => ⟨b, none, 0, a⟩) ?_⟩
  rintro ⟨g, cap, cur, hv, _, hh, _, _, _, ht⟩
  refine ⟨g, 0, cap, hv, fun j x hx => ?_⟩
  rw [Nat.zero_add, cell_of_row _ _ _ _ _ _ hh]
  rw [← ht, List.getElem?_take] at hx
  split at hx
  · simpa using hx
  · cases hx
theorem ints_get (l : List Int) (j : Nat) (hj : j < l.length) : (ints l)[j]? = some (.int .i64 (l[j])) := by simp [ints, hj]

/-- What is wrong with a file's sectors: 0, if nothing is. -/
def badP (p : Int) : Bool := decide (p < 0) || decide (256 ≤ p)
def rightE (l : List Int) : Int := if 8 < l.length then 2 else if l.any badP then 1 else 0

/-- Does a run go on with a sector? -/
def goesB (x : Int × Int) (p : Int) : Bool := if x.1 = 0 then p == 0 else p == x.1 + x.2
/-- One sector more, the runs so far being told the other way round. -/
def stepR (out : List (Int × Int)) (p : Int) : List (Int × Int) :=
  match out with
  | [] => [(p, 1)]
  | x :: r => if goesB x p then (x.1, x.2 + 1) :: r else (p, 1) :: x :: r
def ofR (l : List Int) : List (Int × Int) := l.foldl stepR []
def ofE (l : List Int) : List (Int × Int) := (ofR l).reverse
def pairs (l : List (Int × Int)) : List Value := l.flatMap fun x => [.int .i64 x.1, .int .i64 x.2]
theorem pairs_len (l : List (Int × Int)) : (pairs l).length = l.length * 2 := by
  induction l with
  | nil => rfl
  | cons x l ih => simp only [pairs, List.flatMap_cons, List.length_append, List.length_cons, List.length_nil] at *; omega
theorem pairs_append (a b : List (Int × Int)) : pairs (a ++ b) = pairs a ++ pairs b := by simp [pairs]

theorem pairs_last (r : List (Int × Int)) (x : Int × Int) : (pairs (r ++ [x]))[r.length * 2]? = some (.int .i64 x.1) ∧ (pairs (r ++ [x]))[r.length * 2 + 1]? = some (.int .i64 x.2) := by
  rw [pairs_append]
  have h := pairs_len r
  constructor
  · rw [List.getElem?_append_right (by omega), show r.length * 2 - (pairs r).length = 0 by omega]; rfl
  · rw [List.getElem?_append_right (by omega), show r.length * 2 + 1 - (pairs r).length = 1 by omega]; rfl
theorem pairs_set_last (r : List (Int × Int)) (a b c : Int) : (pairs (r ++ [(a, b)])).set (r.length * 2 + 1) (.int .i64 c) = pairs (r ++ [(a, c)]) := by
  rw [pairs_append, pairs_append]
  have h := pairs_len r
  rw [List.set_append_right _ _ (by omega), show r.length * 2 + 1 - (pairs r).length = 1 by omega]
  rfl
theorem stepR_nil (p : Int) : stepR [] p = [(p, 1)] := rfl
theorem stepR_yes {x : Int × Int} {r : List (Int × Int)} {p : Int} (h : goesB x p = true) : stepR (x :: r) p = (x.1, x.2 + 1) :: r := by simp [stepR, h]
theorem stepR_no {x : Int × Int} {r : List (Int × Int)} {p : Int} (h : goesB x p = false) : stepR (x :: r) p = (p, 1) :: x :: r := by simp [stepR, h]

/-- The cells of a block that was made last. -/
theorem new_cells (w : World) (c : Array Value) (t : TypeId) (j : Nat) (u : Value) (h : c.toList[j]? = some u) : (w.alloc (.cells c t)).cell? ((⟨w.heap.size, 0, none⟩ : Addr).add j) = some u := by
  have hadd : (⟨w.heap.size, 0, none⟩ : Addr).add j = ⟨w.heap.size, j, none⟩ := by unfold Addr.add; split <;> simp_all
  rw [hadd, cell_of_row _ _ j c t (0, 0) (heap_alloc_new w _)]
  simpa using h

theorem owns_below {w w' : World} {base : Nat} {e : TypeId} {size : Nat} {v : Value} {n : Nat} {xs : List Value} (h : w.ownsRow base e size v n xs) (hb : Below w.heap.size w w') : w'.ownsRow base e size v n xs := by
  obtain ⟨h1, h2⟩ := h
  refine ⟨h1, ?_⟩
  rcases h2 with h2 | ⟨g, cap, cur, hv, hg, hh, r⟩
  · exact Or.inl h2
  · exact Or.inr ⟨g, cap, cur, hv, hg, heap_below hb hh, r⟩

/-- A slice that is owned, written out. -/
theorem owns_slice {w : World} {base : Nat} {e : TypeId} {size : Nat} {v : Value} {n : Nat} {xs : List Value} (h : w.ownsRow base e size v n xs) :
    ∃ q cap, v = .slice q n cap ∧ (0 < n → ∃ g, q = some ⟨g, 0, none⟩ ∧ base ≤ g ∧ ∀ (j : Nat) (x : Value), xs[j]? = some x → w.cell? ⟨g, j, none⟩ = some x) := by
  obtain ⟨h1, ⟨rfl, h2⟩ | ⟨g, cap, cur, rfl, hg, hh, _, _, _, ht⟩⟩ := h
  · exact ⟨none, 0, by rw [h2], fun h => by omega⟩
  · refine ⟨_, cap, rfl, fun _ => ⟨g, rfl, hg, fun j x hx => ?_⟩⟩
    rw [cell_of_row _ _ _ _ _ _ hh]
    rw [← ht, List.getElem?_take] at hx
    split at hx
    · simpa using hx
    · cases hx
theorem pairs_get (l : List (Int × Int)) (k : Nat) (hk : k < l.length) : (pairs l)[k * 2]? = some (.int .i64 l[k].1) ∧ (pairs l)[k * 2 + 1]? = some (.int .i64 l[k].2) := by
  induction l generalizing k with
  | nil => simp at hk
  | cons x l ih =>
    cases k with
    | zero => simp [pairs]
    | succ k =>
      have := ih k (by simpa using hk)
      have e1 : (k + 1) * 2 = k * 2 + 1 + 1 := by omega
      rw [e1]
      simp only [pairs, List.flatMap_cons, List.cons_append, List.nil_append, List.getElem?_cons_succ, List.getElem_cons_succ] at *
      exact this

/-- The string of bytes; what 'string(b)' makes of a slice that reads as them. -/
def bytesS (ns : List Int) : ByteArray := ns.foldl (fun r n => r.push (UInt8.ofNat n.toNat)) ByteArray.empty
theorem run_string_of {P : Program} (w : World) (src dst e : TypeId) (g off cap n : Nat) (ns : List Int) (hn : ns.length = n) (hs : P.underlying src = some (.slice e)) (he : P.underlying e = some (.int .u8)) (hd : P.underlying dst = some .string)
    (hc : ∀ (j : Nat) (v : Value), (ns.map (Value.int .u8))[j]? = some v → w.cell? ⟨g, off + j, none⟩ = some v) :
    (convert src dst (.slice (some ⟨g, off, none⟩) n cap)).run P w = .ok (.string (bytesS ns)) w := by
  subst hn
  rw [run_convert_bytes_string w src dst e _ _ _ hs he hd]
  refine run_bytesToString w ⟨g, off, none⟩ ns.length cap ns ?_
  have := run_loadCells_list (P := P) w ⟨g, off, none⟩ (ns.map (Value.int .u8)) (fun j v hv => by
    have hadd : (⟨g, off, none⟩ : Addr).add j = ⟨g, off + j, none⟩ := by unfold Addr.add; split <;> simp_all
    rw [hadd]; exact hc j v hv)
  rw [List.length_map] at this
  exact this

/-- Starts are sectors, lengths are at least one and at most n. -/
def okR (n : Nat) (out : List (Int × Int)) : Prop := ∀ x, x ∈ out → 0 ≤ x.1 ∧ x.1 ≤ 255 ∧ 1 ≤ x.2 ∧ x.2 ≤ n
theorem stepR_bound {n : Nat} {out : List (Int × Int)} (h : okR n out) (p : Int) (h0 : 0 ≤ p) (h1 : p ≤ 255) : okR (n + 1) (stepR out p) := by
  intro x hx
  cases out with
  | nil =>
    simp only [stepR, List.mem_singleton] at hx
    subst hx; simp only; omega
  | cons y r =>
    simp only [stepR] at hx
    split at hx
    · rcases List.mem_cons.1 hx with rfl | hx
      · have := h y (by simp); simp only; omega
      · have := h x (by simp [hx]); omega
    · rcases List.mem_cons.1 hx with rfl | hx
      · simp only; omega
      · have := h x hx; omega
theorem stepR_len (out : List (Int × Int)) (p : Int) : (stepR out p).length ≤ out.length + 1 := by
  cases out with
  | nil => simp [stepR]
  | cons y r => simp only [stepR]; split <;> simp
theorem ofR_snoc (l : List Int) (p : Int) : ofR (l ++ [p]) = stepR (ofR l) p := by simp [ofR]
theorem ofR_ok : ∀ (n : Nat) (l : List Int), l.length = n → (∀ p, p ∈ l → 0 ≤ p ∧ p ≤ 255) → okR n (ofR l) ∧ (ofR l).length ≤ n
  | 0, l, hl, _ => by
    have : l = [] := List.length_eq_zero_iff.1 hl
    subst this
    exact ⟨fun x hx => by simp [ofR] at hx, by simp [ofR]⟩
  | n + 1, l, hl, h => by
    obtain ⟨m, p, rfl⟩ : ∃ m p, l = m ++ [p] := ⟨l.dropLast, l.getLast (by intro e; subst e; simp at hl), (List.dropLast_concat_getLast _).symm⟩
    have ih := ofR_ok n m (by simpa using hl) (fun q hq => h q (by simp [hq]))
    have hp := h p (by simp)
    rw [ofR_snoc]
    exact ⟨stepR_bound ih.1 p hp.1 hp.2, by have := stepR_len (ofR m) p; omega⟩

end Go.Proofs.YtheiaebmemcbhaaDoor
