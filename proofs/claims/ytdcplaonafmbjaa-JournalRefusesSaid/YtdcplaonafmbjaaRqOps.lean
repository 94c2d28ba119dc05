/- Right, and where the first barrier is. -/
import Derived.Test.YtdcplaonafmbjaaRq
import Derived.Test.YtdcplaonafmbjaaProg
import Derived.LoopTactic
import Derived.WalkKit
import Derived.Lib.Hide
namespace Go.Proofs.Ytdcplaonafmbjaa
open Go.RowKit

/-- A list of requests, opened. -/
theorem rqs_open {w : World} {v : Value} {E : List Rq} (h : RowAt w v 3 E.length (rcells E)) : ∃ p cp, v = .slice p E.length cp ∧ Hid (0 < E.length → ∃ g o, p = some ⟨g, o, none⟩ ∧ g < w.heap.size ∧ ∀ (j : Nat) (x : Value), (rcells E)[j]? = some x → w.cell? ⟨g, o + j, none⟩ = some x) := by
  obtain ⟨_, ⟨h0, a0, c0, rfl⟩ | ⟨g, o, cap, rfl, hc⟩⟩ := h
  · exact ⟨a0, c0, by rw [h0], fun h => by omega⟩
  · refine ⟨_, cap, rfl, fun h0 => ⟨g, o, rfl, ?_, hc⟩⟩
    exact block_lt_of_cell (hc _ _ (rcells_get E 0 h0).1)
theorem RqOk.shape {w : World} {x : Rq} (h : RqOk w x) : ∃ p l c, x.v = .slice p l c ∧ (x.b = false → l = 64) ∧ x.n < 256 := by
  rcases h with ⟨_, h2, h3, _⟩ | ⟨h1, h2, h3, h4⟩
  · exact ⟨none, 0, 0, h3, fun h => by simp_all, by omega⟩
  · obtain ⟨_, ⟨h0, _⟩ | ⟨g, o, cap, h5, _⟩⟩ := h3
    · omega
    · exact ⟨_, _, cap, h5, fun _ => h4, h2⟩

set_option maxRecDepth 100000 in
set_option maxHeartbeats 2000000 in
theorem right_ok (v : Value) (E : List Rq) (w : World) (hv : RowAt w v 3 E.length (rcells E)) (hE : ∀ x ∈ E, RqOk w x) (hl : E.length ≤ 100) :
    Calls Try.prog 68 #[v] w fun e w' => e = .returned (.int .i64 0) ∧ Below w.heap.size w w' := by
  obtain ⟨p, cp, rfl, HP⟩ := rqs_open hv
  obtain ⟨N, HN⟩ : ∃ N, Hid (E.length = N) := ⟨_, rfl⟩
  have HE := Lib.hid hE
  rw [HN.out] at hl HP
  rw [HN.out]
  clear hv hE
  have hN2 : ¬ (100 : Int) < (N : Int) := by omega
  go_enter Try.func68, Try.ntmps68
  go_wp2
  go_loopw [10] (fun i wr => ∃ k : Nat, k ≤ N ∧ i = .int .i64 k ∧ Below w.heap.size w wr) (fun i _ => N - (intOf i).toNat)
  case atStart => exact ⟨0, Nat.zero_le _, rfl, Below.refl _ _⟩
  case round =>
    obtain ⟨k, hk, rfl, HB⟩ := hrel
    by_cases hlt : k < N
    · obtain ⟨g, o, rfl, hg, hc⟩ := HP.out (by omega)
      have hkl : k < E.length := by rw [HN.out]; exact hlt
      obtain ⟨e0, e1, e2⟩ := rcells_get E k hkl
      obtain ⟨px, lx, cx, hxs, hx64, hxn⟩ := (HE.out E[k] (List.getElem_mem hkl)).shape
      rw [hxs] at e1
      have c0 := (HB.cell (p := ⟨g, o + k * 3, none⟩) hg).trans (hc _ _ e0)
      have c1 := (HB.cell (p := ⟨g, o + (k * 3 + 1), none⟩) hg).trans (hc _ _ e1)
      have c2 := (HB.cell (p := ⟨g, o + (k * 3 + 2), none⟩) hg).trans (hc _ _ e2)
      rw [← Nat.add_assoc] at c1 c2
      obtain ⟨xn, Hxn⟩ : ∃ q, Hid (E[k].n = q) := ⟨E[k].n, rfl⟩
      obtain ⟨xb, Hxb⟩ : ∃ q, Hid (E[k].b = q) := ⟨E[k].b, rfl⟩
      rw [Hxn.out] at c0 hxn
      rw [Hxb.out] at c2 hx64
      have hlt2 : (k : Int) < (N : Int) := by omega
      have hgl : g < wr.heap.size := Nat.lt_of_lt_of_le hg HB.size
      have hgn : ¬ g = wr.heap.size := by omega
      have HBA : Hid (Below w.heap.size w (wr.alloc (.cells #[.int .i64 (xn : Int), .slice px lx cx, .bool xb] 81))) := HB.alloc HB.size _
      clear hc e0 e1 e2 hxs
      cases xb with
      | true =>
        clear hx64
        go_wp2
        go_roundw
        case rel => exact ⟨k + 1, by omega, by go_num, HBA.out⟩
        case measure => simp [intOf]; omega
      | false =>
        have h64 := hx64 rfl
        subst h64
        have b1 : decide ((xn : Int) < 0) = false := by rw [decide_eq_false_iff_not]; omega
        have b2 : decide ((256 : Int) ≤ (xn : Int)) = false := by rw [decide_eq_false_iff_not]; omega
        have b3 : ¬ (256 : Int) ≤ (xn : Int) := by omega
        have b4 : ¬ 256 ≤ xn := by omega
        clear hx64
        go_wp2
        go_roundw
        case rel => exact ⟨k + 1, by omega, by go_num, HBA.out⟩
        case measure => simp [intOf]; omega
    · go_wp2
      go_ret
      exact ⟨rfl, HB⟩

set_option maxRecDepth 100000 in
theorem bar1_any (x : Rq) (w : World) (hx : ∃ p l c, x.v = .slice p l c) : Calls Try.prog 70 #[.agg #[.int .i64 (x.n : Int), x.v, .bool x.b]] w fun e w' => e = .returned (.bool x.b) ∧ Below w.heap.size w w' := by
  obtain ⟨p, l, c, hx⟩ := hx
  rw [hx]
  obtain ⟨xn, Hxn⟩ : ∃ q, Hid (x.n = q) := ⟨x.n, rfl⟩
  obtain ⟨xb, Hxb⟩ : ∃ q, Hid (x.b = q) := ⟨x.b, rfl⟩
  rw [Hxn.out, Hxb.out]
  go_enter Try.func70, Try.ntmps70
  go_wp2
  go_ret
  exact ⟨rfl, (Below.refl _ _).alloc (Nat.le_refl _) _⟩

/-- Where the first barrier is; -1: none is. -/
def barI (E : List Rq) : Int := match E.findIdx? fun x => x.b with | some k => (k : Int) | none => -1
set_option maxRecDepth 100000 in
set_option maxHeartbeats 1000000 in
theorem barI_any (v : Value) (E : List Rq) (w : World) (hv : RowAt w v 3 E.length (rcells E)) (hE : ∀ x ∈ E, RqOk w x) (hl : E.length ≤ 1000) :
    Calls Try.prog 69 #[v, .func (.func 70) #[] #[]] w fun e w' => e = .returned (.int .i64 (barI E)) ∧ Below w.heap.size w w' := by
  obtain ⟨p, cp, rfl, HP⟩ := rqs_open hv
  obtain ⟨N, HN⟩ : ∃ N, Hid (E.length = N) := ⟨_, rfl⟩
  have HE := Lib.hid hE
  rw [HN.out] at hl HP
  rw [HN.out]
  clear hv hE
  go_enter Try.func69, Try.ntmps69
  go_wp2
  go_loopw [8] (fun i wr => ∃ k : Nat, k ≤ N ∧ i = .int .i64 k ∧ Hid (∀ j (hj : j < E.length), j < k → E[j].b = false) ∧ Below w.heap.size w wr) (fun i _ => N - (intOf i).toNat)
  case atStart => exact ⟨0, Nat.zero_le _, rfl, fun j _ hj => by omega, Below.refl _ _⟩
  case round =>
    obtain ⟨k, hk, rfl, HO, HB⟩ := hrel
    by_cases hlt : k < N
    · obtain ⟨g, o, rfl, hg, hc⟩ := HP.out (by omega)
      have hkl : k < E.length := by rw [HN.out]; exact hlt
      obtain ⟨e0, e1, e2⟩ := rcells_get E k hkl
      obtain ⟨px, lx, cx, hxs, _, _⟩ := (HE.out E[k] (List.getElem_mem hkl)).shape
      have HX := Lib.hid (fun W => bar1_any E[k] W ⟨px, lx, cx, hxs⟩)
      rw [hxs] at e1 HX
      have c0 := (HB.cell (p := ⟨g, o + k * 3, none⟩) hg).trans (hc _ _ e0)
      have c1 := (HB.cell (p := ⟨g, o + (k * 3 + 1), none⟩) hg).trans (hc _ _ e1)
      have c2 := (HB.cell (p := ⟨g, o + (k * 3 + 2), none⟩) hg).trans (hc _ _ e2)
      rw [← Nat.add_assoc] at c1 c2
      obtain ⟨xn, Hxn⟩ : ∃ q, Hid (E[k].n = q) := ⟨E[k].n, rfl⟩
      obtain ⟨xb, Hxb⟩ : ∃ q, Hid (E[k].b = q) := ⟨E[k].b, rfl⟩
      rw [Hxn.out] at c0 HX
      rw [Hxb.out] at c2 HX
      have hlt2 : (k : Int) < (N : Int) := by omega
      clear hc e0 e1 e2 hxs
      go_wp2_with fail
      refine (HX.out _).mono ?_
      cases xb with
      | true =>
        have HF : Hid (barI E = (k : Int)) := by
          show _ = _
          unfold barI
          have : E.findIdx? (fun x => x.b) = some k := by
            rw [List.findIdx?_eq_some_iff_getElem]
            exact ⟨hkl, Hxb.out, fun j hj => by simpa using HO.out j (by omega) hj⟩
          rw [this]
        rintro e w1 ⟨rfl, hb1⟩
        have hB1 := Below.step HB hb1
        clear hb1
        go_wp2
        go_ret
        rw [HF.out]
        exact ⟨rfl, hB1⟩
      | false =>
        have HO2 : Hid (∀ j (hj : j < E.length), j < k + 1 → E[j].b = false) := fun j hj hjk => by
          by_cases e : j = k
          · subst e; exact Hxb.out
          · exact HO.out j hj (by omega)
        rintro e w1 ⟨rfl, hb1⟩
        have hB1 := Below.step HB hb1
        clear hb1
        go_wp2
        go_roundw
        case rel => exact ⟨k + 1, by omega, by go_num, HO2, hB1⟩
        case measure => simp [intOf]; omega
    · have HF : Hid (barI E = -1) := by
        show _ = _
        unfold barI
        have : E.findIdx? (fun x => x.b) = none := by
          rw [List.findIdx?_eq_none_iff]
          intro x hx
          obtain ⟨j, hj, rfl⟩ := List.getElem_of_mem hx
          exact HO.out j hj (by rw [HN.out] at hj; omega)
        rw [this]
      go_wp2
      go_ret
      rw [HF.out]
      exact ⟨rfl, HB⟩

end Go.Proofs.Ytdcplaonafmbjaa
