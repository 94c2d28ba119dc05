/- Part of the proofs of CheckFresh, FsCut, FsHoles: the texts IntsIn, EqB. -/
import Derived.Test.YtpoglnpjadmbpaaGreatDoorMA2
import Derived.Test.YtpoglnpjadmbpaaGreatDoorProg
import Derived.LoopTactic
import Derived.Lib.Hide
import Derived.IntWalk
import Derived.BigQuiet
import Derived.Deep.QuietTactic
set_option maxHeartbeats 16000000
namespace Go.Proofs.YtpoglnpjadmbpaaGreatDoor
open Go.RowKit
theorem qjx {w : World} {v : Value} {l : List Int} (h : qan w v l) : ∃ p cp, v = .slice p l.length cp ∧ Hid (0 < l.length → ∃ g o, p = some ⟨g, o, none⟩ ∧ ∀ (j : Nat) (x : Value), (ints l)[j]? = some x → w.cell? ⟨g, o + j, none⟩ = some x) := by
 obtain ⟨_, ⟨h0, a0, c0, rfl⟩ | ⟨g, o, cap, rfl, hc⟩⟩ := h
 ·exact ⟨a0, c0, by rw [h0], fun h => by omega⟩
 ·exact ⟨_, cap, rfl, fun _ => ⟨g, o, rfl, hc⟩⟩
def idxL (l : List Int) (x : Int) : Int := match l.findIdx? (fun y => y == x) with | some k => (k : Int) | none => -1
set_option maxRecDepth 100000 in
theorem qxc (v : Value) (l : List Int) (x : Int) (w : World) (h : qan w v l) (hl : l.length ≤ 1000000) :
  Calls Tryz.prog 156 #[v, .int .i64 x] w fun e w' => e = .returned (.int .i64 (idxL l x)) ∧ w = w' := by
 obtain ⟨p, cp, rfl, HP⟩ := qjx h
 obtain ⟨N, HN⟩ : ∃ N, Hid (l.length = N) := ⟨_, rfl⟩
 rw [HN.out] at hl HP
 rw [HN.out]
 clear h
 go_enter Tryz.func156, Tryz.ntmps156
 go_wp2
 go_loop [8] (fun i => ∃ k : Nat, k ≤ N ∧ i = .int .i64 k ∧ Hid (∀ j (hj : j < l.length), j < k → l[j] ≠ x)) (fun i => N - (intOf i).toNat)
 case atStart => exact ⟨0, Nat.zero_le _, rfl, fun j _ h => absurd h (Nat.not_lt_zero j)⟩
 case round =>
  obtain ⟨k, hk, rfl, HE⟩ := hrel
  by_cases hlt : k < N
  ·obtain ⟨g, o, rfl, hc⟩ := HP.out (by omega)
   have hkl : k < l.length := by rw [HN.out]; exact hlt
   have hp := qdn l k hkl
   obtain ⟨y, Hy⟩ : ∃ y, Hid (l[k] = y) := ⟨l[k], rfl⟩
   rw [Hy.out] at hp
   have c1 := hc _ _ hp
   have hlt2 : (k : Int) < (N : Int) := by omega
   clear hc hp
   by_cases hxy : x = y
   ·have HF : Hid (idxL l x = (k : Int)) := by
     show _ = _
     unfold idxL
     have : l.findIdx? (fun y => y == x) = some k := by
      rw [List.findIdx?_eq_some_iff_getElem]
      exact ⟨hkl, by rw [Hy.out, hxy]; simp, fun j hj => by simpa using HE.out j (by omega) hj⟩
     rw [this]
    subst hxy
    go_wp2
    go_ret
    rw [HF.out]
    exact ⟨rfl, rfl⟩
   ·have HE2 : Hid (∀ j (hj : j < l.length), j < k + 1 → l[j] ≠ x) := fun j hj h => by
     by_cases e : j = k
     ·subst e; rw [Hy.out]; exact fun e => hxy e.symm
     ·exact HE.out j hj (by omega)
    have b1 : (x == y) = false := by simpa using hxy
    clear hxy
    go_wp2
    go_round
    case rel => exact ⟨k + 1, by omega, by go_num, HE2⟩
    case measure => simp [intOf]; omega
  ·have HF : Hid (idxL l x = -1) := by
    show _ = _
    unfold idxL
    have : l.findIdx? (fun y => y == x) = none := by
     rw [List.findIdx?_eq_none_iff]
     intro y hy
     obtain ⟨j, hj, rfl⟩ := List.getElem_of_mem hy
     simpa using HE.out j hj (by rw [HN.out] at hj; omega)
    rw [this]
   go_wp2
   go_ret
   rw [HF.out]
   exact ⟨rfl, rfl⟩
theorem qxb (l : List Int) (x : Int) : decide (0 ≤ idxL l x) = l.contains x := by
 unfold idxL
 cases h : l.findIdx? fun y => y == x with
 | none =>
  rw [List.findIdx?_eq_none_iff] at h
  rw [show decide (0 ≤ (-1 : Int)) = false from rfl]
  symm
  rw [← Bool.not_eq_true]
  intro hc
  have := h x (by simpa using hc)
  simp at this
 | some k =>
  rw [List.findIdx?_eq_some_iff_getElem] at h
  obtain ⟨h1, h2, _⟩ := h
  rw [decide_eq_true (show (0 : Int) ≤ (k : Int) by omega)]
  symm
  simp only [List.contains_iff_mem, beq_iff_eq] at *
  rw [← h2]
  exact List.getElem_mem h1
set_option maxRecDepth 100000 in
theorem qpq (v : Value) (l : List Int) (x : Int) (w : World) (h : qan w v l) (hl : l.length ≤ 1000000) :
  Calls Tryz.prog 112 #[v, .int .i64 x] w fun e w' => e = .returned (.bool (l.contains x)) ∧ w = w' := by
 have HX := Lib.hid (qxc v l x w h hl)
 obtain ⟨p, cp, rfl, _⟩ := qjx h
 have HC := Lib.hid (qxb l x)
 have hb : -1 ≤ idxL l x ∧ idxL l x ≤ 1000000 := by
  unfold idxL
  cases h2 : l.findIdx? fun y => y == x with
  | none => exact ⟨by simp, by simp⟩
  | some k =>
   rw [List.findIdx?_eq_some_iff_getElem] at h2
   obtain ⟨h1, _⟩ := h2
   exact ⟨by show (-1 : Int) ≤ (k : Int); omega, by show (k : Int) ≤ 1000000; omega⟩
 obtain ⟨hb1, hb2⟩ := hb
 clear h hl
 generalize idxL l x = q at *
 go_enter Tryz.func112, Tryz.ntmps112
 go_wp2_with fail
 refine HX.out.mono ?_
 rintro e w' ⟨rfl, rfl⟩
 go_wp2
 go_ret
 rw [← HC.out]
 exact ⟨rfl, rfl⟩
theorem qge {B : Nat} {a w : World} (h : Below B a w) (n : Nat) : Below B a (w.drewN n) := ⟨h.os, h.tape, h.output, h.size, h.block⟩
def qtu (a b : List Int) : Bool := decide (a = b)
set_option maxRecDepth 100000 in
theorem qjf (u v : Value) (a b : List Int) (w : World) (h1 : qae w u a) (h2 : qae w v b) (hab : a.length = b.length) (hl : a.length ≤ 1000000) :
  Calls Tryz.prog 34 #[u, v] w fun e w' => e = .returned (.bool (qtu a b)) ∧ Below w.heap.size w w' := by
 obtain ⟨N, HN⟩ : ∃ N, Hid (N = a.length) := ⟨_, rfl⟩
 have HNb : Hid (N = b.length) := by rw [HN.out]; exact hab
 obtain ⟨p, cp, hu, HP⟩ : ∃ p cp, u = .slice p N cp ∧ Hid (0 < N → ∃ g o, p = some ⟨g, o, none⟩ ∧ ∀ (j : Nat) (x : Value), (u8s a)[j]? = some x → w.cell? ⟨g, o + j, none⟩ = some x) := by
  rw [HN.out]
  obtain ⟨_, ⟨h0, a0, c0, rfl⟩ | ⟨g, o, cap, rfl, hc⟩⟩ := h1
  ·exact ⟨a0, c0, by rw [h0], fun h => by omega⟩
  ·exact ⟨_, cap, rfl, fun _ => ⟨g, o, rfl, hc⟩⟩
 obtain ⟨q, cq, hv, HQ⟩ : ∃ p cp, v = .slice p N cp ∧ Hid (0 < N → ∃ g o, p = some ⟨g, o, none⟩ ∧ ∀ (j : Nat) (x : Value), (u8s b)[j]? = some x → w.cell? ⟨g, o + j, none⟩ = some x) := by
  rw [HNb.out]
  obtain ⟨_, ⟨h0, a0, c0, rfl⟩ | ⟨g, o, cap, rfl, hc⟩⟩ := h2
  ·exact ⟨a0, c0, by rw [h0], fun h => by omega⟩
  ·exact ⟨_, cap, rfl, fun _ => ⟨g, o, rfl, hc⟩⟩
 subst hu hv
 rw [← HN.out] at hl
 clear h1 h2 hab
 go_enter Tryz.func34, Tryz.ntmps34
 go_wp2
 go_loopw [13] (fun i wr => ∃ k : Nat, k ≤ N ∧ i = .int .i64 k ∧ Hid (a.take k = b.take k) ∧ Below w.heap.size w wr) (fun i _ => N - (intOf i).toNat)
 case atStart => exact ⟨0, Nat.zero_le _, rfl, rfl, Below.refl _ _⟩
 case round =>
  obtain ⟨k, hk, rfl, HE, HB⟩ := hrel
  by_cases hlt : k < N
  ·obtain ⟨g, o, rfl, hc⟩ := HP.out (by omega)
   obtain ⟨g', o', rfl, hc'⟩ := HQ.out (by omega)
   have hkl : k < a.length := by rw [← HN.out]; exact hlt
   have hkb : k < b.length := by rw [← HNb.out]; exact hlt
   have hp := qcl a k hkl
   have hq := qcl b k hkb
   obtain ⟨x, hx⟩ : ∃ x, Hid (x = a[k]) := ⟨a[k], rfl⟩
   obtain ⟨y, hy⟩ : ∃ y, Hid (y = b[k]) := ⟨b[k], rfl⟩
   rw [← hx.out] at hp
   rw [← hy.out] at hq
   have keep : ∀ {x : Addr} {y : Value}, w.cell? x = some y → wr.cell? x = some y := fun h => (HB.cell (block_lt_of_cell h)).trans h
   have c1 := keep (hc _ _ hp)
   have d1 := keep (hc' _ _ hq)
   have HC := Lib.hid hc
   have HC' := Lib.hid hc'
   clear hc hc' hp hq keep
   have hlt2 : (k : Int) < (N : Int) := by omega
   by_cases hxy : x = y
   ·have HE2 : Hid (a.take (k + 1) = b.take (k + 1)) := by
     show _ = _
     rw [← List.take_append_getElem hkl, ← List.take_append_getElem hkb, HE.out, ← hx.out, ← hy.out, hxy]
    subst hxy
    go_wp2
    go_quiet (fail)
    go_wp2
    go_roundw
    case rel => exact ⟨k + 1, by omega, by go_num, HE2, qge HB _⟩
    case measure => simp [intOf]; omega
   ·have HF : Hid (qtu a b = false) := by
     show _ = _
     unfold qtu
     rw [decide_eq_false_iff_not]
     intro e
     apply hxy
     rw [hx.out, hy.out]
     subst e
     rfl
    have b1 : (x == y) = false := by simpa using hxy
    have b2 : (x != y) = true := by simpa using hxy
    have HXY := Lib.hid hxy
    clear hxy
    go_wp2
    go_quiet (fail)
    go_wp2
    go_ret
    rw [HF.out]
    exact ⟨rfl, qge HB _⟩
  ·have HF : Hid (qtu a b = true) := by
    show _ = _
    unfold qtu
    rw [decide_eq_true_iff]
    have := HE.out
    rw [List.take_of_length_le (by rw [← HN.out]; omega), List.take_of_length_le (by rw [← HNb.out]; omega)] at this
    exact this
   go_wp2
   go_ret
   rw [HF.out]
   exact ⟨rfl, HB⟩
end Go.Proofs.YtpoglnpjadmbpaaGreatDoor
