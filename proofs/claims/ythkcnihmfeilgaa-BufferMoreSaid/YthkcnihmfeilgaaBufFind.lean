/- The slot of a sector: find. -/
import Derived.Test.YthkcnihmfeilgaaBufPlain
namespace Go.Proofs.Ythkcnihmfeilgaa
open Go.RowKit

def fnS (gm : Nat) : Value := .func (.func 72) #[] #[.pointer (some ⟨gm, 0, none⟩)]
set_option maxRecDepth 100000 in
set_option maxHeartbeats 1000000 in
theorem find1_any (n m : Nat) (v : Value) (hv : v.oneCell' = true) (d : Bool) (gm : Nat) (w : World) (hc : w.cell? ⟨gm, 0, none⟩ = some (.int .i64 (m : Int))) :
    Calls Try.prog 72 #[.agg #[.int .i64 (n : Int), v, .bool d], .pointer (some ⟨gm, 0, none⟩)] w fun e w' => e = .returned (.bool (n == m)) ∧ Below w.heap.size w w' := by
  have _ := hv
  have hlt : gm < w.heap.size := block_lt_of_cell hc
  have hE : Hid (decide ((n : Int) = (m : Int)) = (n == m)) := by
    show _ = _
    by_cases h : n = m
    · subst h; simp
    · rw [decide_eq_false (by omega)]; simpa using h
  go_enter Try.func72, Try.ntmps72
  go_wp2
  go_ret
  refine ⟨?_, (Below.refl _ _).alloc (Nat.le_refl _) _⟩
  first | rfl | (rw [← hE.out]; rfl) | simp

def idxO (E : List Sl) (m : Nat) : Option Nat := E.findIdx? fun x => x.n == m
def idxI (E : List Sl) (m : Nat) : Int := match idxO E m with | some k => (k : Int) | none => -1
theorem idxO_some {E : List Sl} {m k : Nat} (hk : k < E.length) (h1 : ∀ j (hj : j < E.length), j < k → E[j].n ≠ m) (h2 : E[k].n = m) : idxO E m = some k := by
  unfold idxO
  rw [List.findIdx?_eq_some_iff_getElem]
  exact ⟨hk, by simpa using h2, fun j hj => by simpa using h1 j (by omega) hj⟩
theorem idxO_none {E : List Sl} {m : Nat} (h1 : ∀ j (hj : j < E.length), E[j].n ≠ m) : idxO E m = none := by
  unfold idxO
  rw [List.findIdx?_eq_none_iff]
  intro x hx
  obtain ⟨j, hj, rfl⟩ := List.mem_iff_getElem.1 hx
  simpa using h1 j hj
theorem idxO_spec (E : List Sl) (m : Nat) : (idxO E m = none ∧ ∀ x ∈ E, x.n ≠ m) ∨ ∃ k, ∃ hk : k < E.length, idxO E m = some k ∧ E[k].n = m ∧ ∀ j (hj : j < E.length), j < k → E[j].n ≠ m := by
  cases h : idxO E m with
  | none =>
    left
    unfold idxO at h
    rw [List.findIdx?_eq_none_iff] at h
    exact ⟨rfl, fun x hx => by simpa using h x hx⟩
  | some k =>
    right
    unfold idxO at h
    rw [List.findIdx?_eq_some_iff_getElem] at h
    obtain ⟨hk, h1, h2⟩ := h
    exact ⟨k, hk, rfl, by simpa using h1, fun j hj hjk => by simpa using h2 j hjk⟩

set_option maxRecDepth 100000 in
set_option maxHeartbeats 1000000 in
theorem idxS_any (v : Value) (E : List Sl) (m : Nat) (gm : Nat) (w : World) (h : w.ownsRow 0 82 3 v E.length (scells E)) (h1 : ∀ x ∈ E, x.v.oneCell' = true) (hl : E.length ≤ 1000000) (hcm : w.cell? ⟨gm, 0, none⟩ = some (.int .i64 (m : Int))) :
    Calls Try.prog 71 #[v, fnS gm] w fun e w' => e = .returned (.int .i64 (idxI E m)) ∧ Below w.heap.size w w' := by
  obtain ⟨a, c, hv, HC⟩ := owns_slice h
  obtain ⟨n, HN⟩ : ∃ n, Hid (n = E.length) := ⟨_, rfl⟩
  rw [← HN.out] at hv hl HC
  subst hv
  have HCH := Lib.hid HC
  have HL := Lib.hid (fun b hb => (h.lt b hb).2)
  have H1 := Lib.hid h1
  have HCM : Hid (∀ (x : Sl) (W : World), x.v.oneCell' = true → Below w.heap.size w W → Calls Try.prog 72 #[.agg #[.int .i64 (x.n : Int), x.v, .bool x.d], .pointer (some ⟨gm, 0, none⟩)] W fun e w' => e = .returned (.bool (x.n == m)) ∧ Below W.heap.size W w') := fun x W hx hW =>
    find1_any x.n m x.v hx x.d gm W ((hW.cell (p := ⟨gm, 0, none⟩) (block_lt_of_cell hcm)).trans hcm)
  clear HC h hcm h1
  unfold fnS
  go_enter Try.func71, Try.ntmps71
  go_wp2
  go_loopw [8] (fun i wr => ∃ k : Nat, k ≤ n ∧ i = .int .i64 k ∧ Hid (∀ j (hj : j < E.length), j < k → E[j].n ≠ m) ∧ Below w.heap.size w wr) (fun i _ => n - (intOf i).toNat)
  case atStart => exact ⟨0, by omega, rfl, fun j _ hj => by omega, Below.refl _ _⟩
  case round =>
    obtain ⟨k, hk, rfl, HO, HB⟩ := hrel
    by_cases hlt : k < n
    · have hkl : k < E.length := by rw [← HN.out]; exact hlt
      obtain ⟨g, rfl, _, hc⟩ := HCH.out (by omega)
      have hg : g < w.heap.size := HL.out g rfl
      obtain ⟨e0, e1, e2⟩ := scells_get E k hkl
      have c0 := (HB.cell (p := ⟨g, k * 3, none⟩) hg).trans (hc _ _ e0)
      have c1 := (HB.cell (p := ⟨g, k * 3 + 1, none⟩) hg).trans (hc _ _ e1)
      have c2 := (HB.cell (p := ⟨g, k * 3 + 2, none⟩) hg).trans (hc _ _ e2)
      have HX := HCM.out E[k] _ (H1.out _ (List.getElem_mem hkl)) HB
      have HXU : Hid (E[k].n = E[k].n) := rfl
      obtain ⟨x, Hx⟩ : ∃ x, Hid (x = E[k]) := ⟨E[k], rfl⟩
      rw [← Hx.out] at c0 c1 c2 HX
      have HXH := Lib.hid HX
      clear hc e0 e1 e2 HX HXU
      obtain ⟨xn, Hxn⟩ : ∃ q, Hid (q = x.n) := ⟨_, rfl⟩
      obtain ⟨xv, Hxv⟩ : ∃ q, Hid (q = x.v) := ⟨_, rfl⟩
      obtain ⟨xd, Hxd⟩ : ∃ q, Hid (q = x.d) := ⟨_, rfl⟩
      rw [← Hxn.out] at c0 HXH
      rw [← Hxv.out] at c1 HXH
      rw [← Hxd.out] at c2 HXH
      go_wp2_with fail
      refine HXH.out.mono ?_
      by_cases hxu : xn = m
      · have HF : Hid (idxI E m = (k : Int)) := by
          show _ = _
          unfold idxI
          rw [idxO_some hkl (fun j hj => HO.out j hj) (by rw [← Hx.out, ← Hxn.out]; exact hxu)]
        have b1 : (xn == m) = true := by simpa using hxu
        rw [b1]
        clear hxu b1
        rintro e w1 ⟨rfl, hb1⟩
        have hB1 := Below.step HB hb1
        clear hb1
        go_wp2
        go_ret
        rw [HF.out]
        exact ⟨rfl, hB1⟩
      · have b1 : (xn == m) = false := by simpa using hxu
        have HO2 : Hid (∀ j (hj : j < E.length), j < k + 1 → E[j].n ≠ m) := fun j hj hjk => by
          by_cases e : j = k
          · subst e; rw [← Hx.out, ← Hxn.out]; exact hxu
          · exact HO.out j hj (by omega)
        rw [b1]
        clear hxu b1
        rintro e w1 ⟨rfl, hb1⟩
        have hB1 := Below.step HB hb1
        clear hb1
        go_wp2
        go_roundw
        case rel => exact ⟨k + 1, by omega, by go_num, HO2, hB1⟩
        case measure => simp [intOf]; omega
    · have HF : Hid (idxI E m = -1) := by
        show _ = _
        unfold idxI
        rw [idxO_none fun j hj => HO.out j hj (by rw [← HN.out] at hj; omega)]
      go_wp2
      go_ret
      rw [HF.out]
      exact ⟨rfl, HB⟩

set_option maxRecDepth 100000 in
set_option maxHeartbeats 1000000 in
theorem find_any {w : World} {gc : Nat} {d lv : Value} {slots : Nat} {E : List Sl} {k : Nat} {A : Nat → Prop} (h : CLies w gc d lv slots E k A) (m : Nat) :
    Calls Try.prog 51 #[.pointer (some ⟨gc, 0, none⟩), .int .i64 (m : Int)] w fun e w' => e = .returned (.int .i64 (idxI E m)) ∧ Below w.heap.size w w' := by
  have c2 := h.c2
  have HI : Hid (∀ W : World, Below w.heap.size w W → W.cell? ⟨w.heap.size, 0, none⟩ = some (.int .i64 (m : Int)) → Calls Try.prog 71 #[lv, fnS w.heap.size] W fun e w' => e = .returned (.int .i64 (idxI E m)) ∧ Below W.heap.size W w') := fun W hW hc =>
    idxS_any lv E m w.heap.size W (owns_below h.own hW) (fun x hx => (h.dat x hx).one) (by have := h.len; have := h.s1; omega) hc
  have hlt : gc < w.heap.size := h.fin _ h.agc
  clear h
  unfold fnS at HI
  go_enter Try.func51, Try.ntmps51
  go_wp2_with fail
  refine (HI.out _ ((Below.refl _ _).alloc (Nat.le_refl _) _) (by simp)).mono ?_
  rintro e w1 ⟨rfl, hb1⟩
  have hB1 : Below w.heap.size w w1 := Below.step ((Below.refl _ _).alloc (Nat.le_refl _) _) hb1
  clear hb1
  go_wp2
  go_ret
  exact ⟨rfl, hB1⟩

end Go.Proofs.Ythkcnihmfeilgaa
