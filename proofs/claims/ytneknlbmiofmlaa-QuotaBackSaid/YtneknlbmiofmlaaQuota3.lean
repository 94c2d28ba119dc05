/- The closure of quota.Set, and slices.IndexFunc by it. -/
import Derived.Test.YtneknlbmiofmlaaQuota2
namespace Go.Proofs.Ytneknlbmiofmlaa
open Go.RowKit

/-- The closure: does a row tell of this user? -/
def fnV (gc : Nat) : Value := .func (.func 45) #[] #[.pointer (some ⟨gc, 0, none⟩)]
set_option maxHeartbeats 1000000 in
theorem set1_any (x y u : Int) (gc : Nat) (w : World) (hc : w.cell? ⟨gc, 0, none⟩ = some (.int .i64 u)) :
    Calls Try.prog 45 #[.agg #[.int .i64 x, .int .i64 y], .pointer (some ⟨gc, 0, none⟩)] w fun e w' => e = .returned (.bool (x == u)) ∧ Below w.heap.size w w' := by
  have hlt : gc < w.heap.size := block_lt_of_cell hc
  go_enter Try.func45, Try.ntmps45
  go_wp2
  go_ret
  exact ⟨rfl, (Below.refl _ _).alloc (Nat.le_refl _) _⟩

/-- The first row that tells of a user. -/
def idxQ : List (Int × Int) → Int → Option Nat
  | [], _ => none
  | x :: l, u => if x.1 = u then some 0 else (idxQ l u).map (· + 1)
theorem idxQ_some {l : List (Int × Int)} {u : Int} : ∀ {k : Nat} (hk : k < l.length), (∀ j (hj : j < k), (l[j]'(by omega)).1 ≠ u) → l[k].1 = u → idxQ l u = some k := by
  induction l with
  | nil => intro k hk; simp at hk
  | cons x l ih =>
    intro k hk h1 h2
    cases k with
    | zero => show (if x.1 = u then some 0 else _) = _; rw [if_pos (show x.1 = u from h2)]
    | succ k =>
      show (if x.1 = u then some 0 else _) = _
      rw [if_neg (show ¬ x.1 = u from h1 0 (by omega)), ih (k := k) (by simpa using hk) (fun j hj => by have := h1 (j + 1) (by omega); simpa using this) (by simpa using h2)]
      rfl
theorem idxQ_none {l : List (Int × Int)} {u : Int} : (∀ j (hj : j < l.length), l[j].1 ≠ u) → idxQ l u = none := by
  induction l with
  | nil => intro _; rfl
  | cons x l ih =>
    intro h1
    show (if x.1 = u then some 0 else _) = _
    rw [if_neg (show ¬ x.1 = u from h1 0 (by simp)), ih (fun j hj => by have := h1 (j + 1) (by simpa using hj); simpa using this)]
    rfl
def idxI (l : List (Int × Int)) (u : Int) : Int := match idxQ l u with | some k => (k : Int) | none => -1

set_option maxHeartbeats 1000000 in
theorem index_any (v : Value) (l : List (Int × Int)) (u : Int) (gc : Nat) (w : World) (h : RowAt w v 2 l.length (pairs l)) (hl : l.length ≤ 1000000) (hcu : w.cell? ⟨gc, 0, none⟩ = some (.int .i64 u)) :
    Calls Try.prog 47 #[v, fnV gc] w fun e w' => e = .returned (.int .i64 (idxI l u)) ∧ Below w.heap.size w w' := by
  obtain ⟨a, c, hv, HC⟩ := rows_cells h
  obtain ⟨n, HN⟩ : ∃ n, Hid (n = l.length) := ⟨_, rfl⟩
  rw [← HN.out] at hv hl
  subst hv
  have HCH := Lib.hid HC
  have HCU : Hid (∀ (x y : Int) (W : World), Below w.heap.size w W → Calls Try.prog 45 #[.agg #[.int .i64 x, .int .i64 y], .pointer (some ⟨gc, 0, none⟩)] W fun e w' => e = .returned (.bool (x == u)) ∧ Below W.heap.size W w') := fun x y W hW =>
    set1_any x y u gc W ((hW.cell (p := ⟨gc, 0, none⟩) (block_lt_of_cell hcu)).trans hcu)
  clear HC h hcu
  unfold fnV
  go_enter Try.func47, Try.ntmps47
  go_wp2
  go_loopw [8] (fun i wr => ∃ k : Nat, k ≤ n ∧ i = .int .i64 k ∧ Hid (∀ j (hj : j < l.length), j < k → l[j].1 ≠ u) ∧ Below w.heap.size w wr) (fun i _ => n - (intOf i).toNat)
  case atStart => exact ⟨0, by omega, rfl, fun j _ hj => by omega, Below.refl _ _⟩
  case round =>
    obtain ⟨k, hk, rfl, HO, HB⟩ := hrel
    by_cases hlt : k < n
    · have hkl : k < l.length := by rw [← HN.out]; exact hlt
      obtain ⟨g, o, rfl, hg, hc⟩ := HCH.out (by omega)
      obtain ⟨x, Hx⟩ : ∃ x, Hid (x = l[k].1) := ⟨l[k].1, rfl⟩
      obtain ⟨y, Hy⟩ : ∃ y, Hid (y = l[k].2) := ⟨l[k].2, rfl⟩
      have c0 : wr.cell? ⟨g, o + k * 2, none⟩ = some (.int .i64 x) := by rw [HB.cell (p := ⟨g, o + k * 2, none⟩) hg, (hc k hkl).1, Hx.out]
      have c1 : wr.cell? ⟨g, o + k * 2 + 1, none⟩ = some (.int .i64 y) := by rw [HB.cell (p := ⟨g, o + k * 2 + 1, none⟩) hg, (hc k hkl).2, Hy.out]
      clear hc
      go_wp2_with fail
      refine (HCU.out x y _ HB).mono ?_
      by_cases hxu : x = u
      · have HF : Hid (idxI l u = (k : Int)) := by
          show _ = _
          unfold idxI
          rw [idxQ_some hkl (fun j hj => HO.out j (by omega) hj) (by rw [← Hx.out]; exact hxu)]
        have b1 : (x == u) = true := by simpa using hxu
        rw [b1]
        clear hxu b1
        rintro e w1 ⟨rfl, hb1⟩
        have hB1 := Below.step HB hb1
        clear hb1
        go_wp2
        go_ret
        rw [HF.out]
        exact ⟨rfl, hB1⟩
      · have b1 : (x == u) = false := by simpa using hxu
        have HO2 : Hid (∀ j (hj : j < l.length), j < k + 1 → l[j].1 ≠ u) := fun j hj hjk => by
          by_cases e : j = k
          · subst e; rw [← Hx.out]; exact hxu
          · exact HO.out j hj (by omega)
        rw [b1]
        clear hxu b1
        rintro e w1 ⟨rfl, hb1⟩
        have hB1 := Below.step HB hb1
        clear hb1
        go_wp2
        go_roundw
        case rel => exact ⟨k + 1, by omega, by go_num, HO2, hB1⟩
        case measure => simp [intOf]; omega
    · have HF : Hid (idxI l u = -1) := by
        show _ = _
        unfold idxI
        rw [idxQ_none fun j hj => HO.out j hj (by rw [← HN.out] at hj; omega)]
      go_wp2
      go_ret
      rw [HF.out]
      exact ⟨rfl, HB⟩

end Go.Proofs.Ytneknlbmiofmlaa
