/- Way, and the requests of a law. -/
import Derived.Test.YtdcplaonafmbjaaLiftSort
import Derived.Test.YtdcplaonafmbjaaLiftOrder
namespace Go.Proofs.Ytdcplaonafmbjaa
open Go.RowKit

theorem order_any (v : Value) (E : List Rq) (h : Nat) (hh : h < 256) (w : World) (hv : RqRow w v E) (hE : ∀ x ∈ E, RqOk w x) (hl : E.length ≤ 100) :
    Calls Try.prog 62 #[v, .int .i64 (h : Int)] w (OrderRes (E.map rab) h w) := order_raw sort_said v E h hh w hv hE hl

/-- How far the head goes. -/
def wayF : Nat → List Rb → Nat
  | _, [] => 0
  | h, (n, _, b) :: l => if b then wayF h l else farN h n + wayF n l
/-- Where the head is then. -/
def headL : Nat → List Rb → Nat
  | h, [] => h
  | h, (n, _, b) :: l => if b then headL h l else headL n l
theorem headL_snoc (h : Nat) (l : List Rb) (x : Rb) : headL h (l ++ [x]) = if x.2.2 then headL h l else x.1 := by
  induction l generalizing h with
  | nil => obtain ⟨n, D, b⟩ := x; cases b <;> rfl
  | cons y l ih =>
    obtain ⟨n, D, b⟩ := y
    show (if b then headL h (l ++ [x]) else headL n (l ++ [x])) = if x.2.2 then (if b then headL h l else headL n l) else x.1
    cases b
    · rw [if_neg (by simp), ih]; rfl
    · rw [if_pos rfl, ih]; rfl
theorem wayF_snoc (h : Nat) (l : List Rb) (x : Rb) : wayF h (l ++ [x]) = wayF h l + if x.2.2 then 0 else farN (headL h l) x.1 := by
  induction l generalizing h with
  | nil => obtain ⟨n, D, b⟩ := x; cases b <;> simp [wayF, headL]
  | cons y l ih =>
    obtain ⟨n, D, b⟩ := y
    cases b
    · show farN h n + wayF n (l ++ [x]) = farN h n + wayF n l + _
      rw [ih]
      show _ = _ + if x.2.2 then 0 else farN (headL n l) x.1
      omega
    · show wayF h (l ++ [x]) = wayF h l + _
      rw [ih]; rfl
theorem headL_lt (h : Nat) (hh : h < 256) (l : List Rb) (hl : ∀ x ∈ l, x.1 < 256) : headL h l < 256 := by
  induction l generalizing h with
  | nil => exact hh
  | cons y l ih =>
    obtain ⟨n, D, b⟩ := y
    cases b
    · exact ih n (hl (n, D, false) (by simp)) fun x hx => hl x (by simp [hx])
    · exact ih h hh fun x hx => hl x (by simp [hx])
theorem wayF_le (h : Nat) (l : List Rb) : wayF h l ≤ 256 * l.length := by
  induction l generalizing h with
  | nil => simp [wayF]
  | cons y l ih =>
    obtain ⟨n, D, b⟩ := y
    have h1 := ih n
    have h2 := ih h
    have h3 := farN_lt h n
    cases b
    · show farN h n + wayF n l ≤ _
      rw [List.length_cons]; omega
    · show wayF h l ≤ _
      rw [List.length_cons]; omega

/-- The requests of a law's list. -/
def askF (x : Int × ByteArray) : Rb := if pkN x.1 17 = 16 then barR else (pkN x.1 17, secS x.2, false)
def asksF (l : List (Int × ByteArray)) : List Rb := l.map askF
def AsksRes (l : List (Int × ByteArray)) (w : World) (e : Ending) (w' : World) : Prop := ∃ v', e = .returned v' ∧ RqsOwn w' w.heap.size v' (asksF l) ∧ Below w.heap.size w w'
theorem rqsOwn_new {w : World} {base g cap : Nat} {cur : Array Value} {D : List Int} (n : Nat) (hn : n < 256) (hD : D.length = 64) (hg : base ≤ g ∧ 64 ≤ cap) (hh : w.heap[g]? = some (.cells cur 5 (0, 0))) (ht : cur.toList.take 64 = u8s D) (h : base ≤ w.heap.size) :
    RqsOwn (w.alloc (.cells #[.int .i64 (n : Int), .slice (some ⟨g, 0, none⟩) 64 cap, .bool false] 81)) base (.slice (some ⟨w.heap.size, 0, none⟩) 1 1) [(n, D, false)] :=
  ⟨[⟨n, .slice (some ⟨g, 0, none⟩) 64 cap, D, false⟩], rfl, ⟨rfl, Or.inr ⟨w.heap.size, 1, _, rfl, h, heap_alloc_new w _, Nat.le_refl _, by unfold maxLen; omega, rfl, rfl⟩⟩, fun x hx => by
    simp at hx
    subst hx
    exact Or.inr ⟨rfl, hn, hD, g, cap, cur, rfl, hg, heap_alloc_keep hh _, ht⟩⟩

end Go.Proofs.Ytdcplaonafmbjaa
