/- Rows of quotas: Of, Right, May. -/
import Derived.Test.YtneknlbmiofmlaaQuLaws
import Derived.Deep.QuietTactic
import Derived.BigQuiet
import Derived.IntWalk
namespace Go.Proofs.Ytneknlbmiofmlaa
open Go.RowKit

/-- How many a user may have. -/
def ofQ : List (Int × Int) → Int → Int
  | [], _ => -1
  | x :: l, u => if x.1 = u then x.2 else ofQ l u
theorem ofQ_drop (l : List (Int × Int)) (u : Int) (k : Nat) (hk : k < l.length) : ofQ (l.drop k) u = if l[k].1 = u then l[k].2 else ofQ (l.drop (k + 1)) u := by
  rw [List.drop_eq_getElem_cons hk]
  rfl
theorem rows_get (l : List (Int × Int)) (k : Nat) (hk : k < l.length) : (pairs l)[k * 2]? = some (.int .i64 l[k].1) ∧ (pairs l)[k * 2 + 1]? = some (.int .i64 l[k].2) := by
  have e : l = l.take k ++ (l[k] :: l.drop (k + 1)) := by rw [List.getElem_cons_drop, List.take_append_drop]
  have hl : (pairs (l.take k)).length = k * 2 := by rw [pairs_len, List.length_take]; omega
  have e2 : pairs l = pairs (l.take k) ++ (.int .i64 l[k].1 :: .int .i64 l[k].2 :: pairs (l.drop (k + 1))) := by
    conv => lhs; rw [e]
    rw [pairs_append]
    rfl
  rw [e2]
  constructor
  · rw [List.getElem?_append_right (by omega), hl, Nat.sub_self]; rfl
  · rw [List.getElem?_append_right (by omega), hl, show k * 2 + 1 - k * 2 = 1 by omega]; rfl
/-- A slice that reads as rows: where they lie. -/
theorem rows_cells {w : World} {v : Value} {l : List (Int × Int)} (h : RowAt w v 2 l.length (pairs l)) : ∃ a c, v = .slice a l.length c ∧ (0 < l.length → ∃ g o, a = some ⟨g, o, none⟩ ∧ g < w.heap.size ∧ ∀ k (hk : k < l.length), w.cell? ⟨g, o + k * 2, none⟩ = some (.int .i64 l[k].1) ∧ w.cell? ⟨g, o + k * 2 + 1, none⟩ = some (.int .i64 l[k].2)) := by
  obtain ⟨_, ⟨h1, a, c, rfl⟩ | ⟨g, o, c, rfl, hc⟩⟩ := h
  · exact ⟨a, c, by rw [h1], fun h => by omega⟩
  · refine ⟨_, c, rfl, fun h0 => ⟨g, o, rfl, ?_, fun k hk => ?_⟩⟩
    · exact block_lt_of_cell (hc 0 _ (rows_get l 0 h0).1)
    · exact ⟨hc _ _ (rows_get l k hk).1, by rw [Nat.add_assoc]; exact hc _ _ (rows_get l k hk).2⟩

set_option maxHeartbeats 1000000 in
theorem of_any (v : Value) (l : List (Int × Int)) (u : Int) (w : World) (h : RowAt w v 2 l.length (pairs l)) (hl : l.length ≤ 1000000) :
    Calls Try.prog 34 #[v, .int .i64 u] w fun e w' => e = .returned (.int .i64 (ofQ l u)) ∧ Below w.heap.size w w' := by
  obtain ⟨a, c, hv, HC⟩ := rows_cells h
  obtain ⟨n, HN⟩ : ∃ n, Hid (n = l.length) := ⟨_, rfl⟩
  rw [← HN.out] at hv hl
  subst hv
  have HCH := Lib.hid HC
  clear HC h
  go_enter Try.func34, Try.ntmps34
  go_wp2
  go_loopw [9] (fun i wr => ∃ k : Nat, k ≤ n ∧ i = .int .i64 k ∧ Hid (ofQ l u = ofQ (l.drop k) u) ∧ Below w.heap.size w wr) (fun i _ => n - (intOf i).toNat)
  case atStart => exact ⟨0, by omega, rfl, rfl, Below.refl _ _⟩
  case round =>
    obtain ⟨k, hk, rfl, HO, HB⟩ := hrel
    by_cases hlt : k < n
    · have hkl : k < l.length := by rw [← HN.out]; exact hlt
      have HD := Lib.hid (ofQ_drop l u k hkl)
      obtain ⟨g, o, rfl, hg, hc⟩ := HCH.out (by omega)
      obtain ⟨x, Hx⟩ : ∃ x, Hid (x = l[k].1) := ⟨l[k].1, rfl⟩
      obtain ⟨y, Hy⟩ : ∃ y, Hid (y = l[k].2) := ⟨l[k].2, rfl⟩
      have c0 : wr.cell? ⟨g, o + k * 2, none⟩ = some (.int .i64 x) := by rw [HB.cell (p := ⟨g, o + k * 2, none⟩) hg, (hc k hkl).1, Hx.out]
      have c1 : wr.cell? ⟨g, o + k * 2 + 1, none⟩ = some (.int .i64 y) := by rw [HB.cell (p := ⟨g, o + k * 2 + 1, none⟩) hg, (hc k hkl).2, Hy.out]
      rw [← Hx.out, ← Hy.out] at HD
      clear hc
      by_cases hxu : x = u
      · subst hxu
        have HF : Hid (ofQ l x = y) := by show _ = _; rw [HO.out, HD.out, if_pos rfl]
        go_wp2
        go_ret
        rw [HF.out]
        exact ⟨rfl, HB.alloc HB.size _⟩
      · have b1 : (x == u) = false := by simpa using hxu
        have HO2 : Hid (ofQ l u = ofQ (l.drop (k + 1)) u) := by show _ = _; rw [HO.out, HD.out, if_neg hxu]
        have HXU := Lib.hid hxu
        clear hxu
        go_wp2
        go_roundw
        case rel => exact ⟨k + 1, by omega, by go_num, HO2, HB.alloc HB.size _⟩
        case measure => simp [intOf]; omega
    · have HF : Hid (ofQ l u = -1) := by
        show _ = _
        rw [HO.out, List.drop_eq_nil_of_le (by rw [← HN.out]; omega)]
        rfl
      go_wp2
      go_ret
      rw [HF.out]
      exact ⟨rfl, HB⟩


end Go.Proofs.Ytneknlbmiofmlaa
