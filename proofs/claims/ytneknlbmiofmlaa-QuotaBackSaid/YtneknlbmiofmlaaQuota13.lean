/- quota.Set. -/
import Derived.Test.YtneknlbmiofmlaaQuota12
namespace Go.Proofs.Ytneknlbmiofmlaa
open Go.RowKit

set_option maxRecDepth 100000 in
set_option maxHeartbeats 2000000 in
theorem set_any (v : Value) (l : List (Int × Int)) (u lim : Int) (w : World) (h : RowAt w v 2 l.length (pairs l)) (hl : l.length ≤ 20) (hok : okQ l = true) (hu0 : 0 ≤ u) (hu1 : u ≤ 255) (hm0 : -1 ≤ lim) (hm1 : lim ≤ 256) :
    Calls Try.prog 33 #[v, .int .i64 u, .int .i64 lim] w (SetRes l u lim w) := by
  have hrg : rightQ l = 0 := by unfold rightQ; rw [if_neg (by omega), if_pos hok]
  have HR : Hid (∀ W : World, Below w.heap.size w W → Calls Try.prog 32 #[v] W fun e w' => e = .returned (.int .i64 0) ∧ Below W.heap.size W w') := fun W hW => by
    have := rightQ_any v l W (RowAt.below h hW) (by omega)
    rw [hrg] at this
    exact this
  have HC : Hid (∀ W : World, Below w.heap.size w W → Calls Try.prog 44 #[v] W (RowsRes W.heap.size l W)) := fun W hW => rowsClone_any v l W (RowAt.below h hW) (by omega)
  have HD : Hid (∀ (B : Nat) (v' : Value) (W : World), B ≤ W.heap.size → w.heap.size < B → W.cell? ⟨w.heap.size, 0, none⟩ = some (.int .i64 u) → W.ownsRow B 63 2 v' l.length (pairs l) →
      Calls Try.prog 43 #[v', fnV w.heap.size] W (RowsRes B (othQ l u) W)) := fun B v' W h1 h2 h3 h4 => delete_any B v' l u w.heap.size W h1 h2 h3 (by omega) h4
  have HL := Lib.hid hl
  have HPOS := Lib.hid (posQ_le (othQ l u) u)
  clear hrg h hok
  have hol : (othQ l u).length ≤ 20 := Nat.le_trans (othQ_le' l u) hl
  have h1 : ¬ u < 0 := by omega
  go_enter Try.func33, Try.ntmps33
  go_wp2_with fail
  refine (HR.out _ ((Below.refl _ w).alloc (Nat.le_refl _) _)).mono ?_
  rintro e w1 ⟨rfl, hb1⟩
  have HB1 : Below w.heap.size w w1 := ((Below.refl _ w).alloc (Nat.le_refl _) _).trans (hb1.mono (by simp))
  have hs1 : w.heap.size < w1.heap.size := by have := hb1.size; simp at this; omega
  have hcu1 : w1.cell? ⟨w.heap.size, 0, none⟩ = some (.int .i64 u) := by
    rw [hb1.cell (p := ⟨w.heap.size, 0, none⟩) (by simp)]; simp
  clear hb1
  go_wp2_with fail
  refine (HC.out _ HB1).mono ?_
  rintro e w2 ⟨v2, rfl, hown2, hb2, hs2⟩
  have HB2 : Below w.heap.size w w2 := HB1.trans (hb2.mono (by omega))
  have hcu2 : w2.cell? ⟨w.heap.size, 0, none⟩ = some (.int .i64 u) := by rw [hb2.cell (p := ⟨w.heap.size, 0, none⟩) hs1]; exact hcu1
  have HOWN2 := Lib.hid hown2
  clear hown2 hb2 hcu1 HC HR
  go_wp2_with fail
  refine (HD.out w1.heap.size v2 w2 hs2 hs1 hcu2 HOWN2.out).mono ?_
  rintro e w3 ⟨v3, rfl, hown3, hb3, hs3⟩
  have HB3 : Below w.heap.size w w3 := HB2.trans (hb3.mono (by omega))
  have hcu3 : w3.cell? ⟨w.heap.size, 0, none⟩ = some (.int .i64 u) := by rw [hb3.cell (p := ⟨w.heap.size, 0, none⟩) hs1]; exact hcu2
  have HOWN3 := Lib.hid hown3
  obtain ⟨q, c, hv3, hq⟩ := owns_slice hown3
  clear hb3 hcu2 hown3 HD HOWN2 HB2 HB1
  subst hv3
  obtain ⟨n, HN⟩ : ∃ n, Hid (n = (othQ l u).length) := ⟨_, rfl⟩
  rw [← HN.out] at hol ⊢
  obtain ⟨P, HP⟩ : ∃ P, Hid (P = posQ (othQ l u) u) := ⟨_, rfl⟩
  have fin : ∀ (v' : Value) (w' : World), (∀ hf : fullQ l u lim = false, w'.ownsRow w.heap.size 63 2 v' (setQ l u lim).length (pairs (setQ l u lim))) → fullQ l u lim = false → Below w.heap.size w w' → SetRes l u lim w (.returned (.tuple #[v', .int .i64 0])) w' := fun v' w' a b c =>
    ⟨fun h => by rw [b] at h; exact absurd h (by simp), fun hf => ⟨v', rfl, a hf⟩, c⟩
  have FIN := Lib.hid fin
  clear fin
  by_cases hlim : lim = -1
  · subst hlim
    have HF : Hid (fullQ l u (-1) = false) := by show _ = _; unfold fullQ; simp
    have HS : Hid (setQ l u (-1) = othQ l u) := by show _ = _; unfold setQ; rw [if_pos rfl]
    go_wp2
    go_ret2
    refine FIN.out _ _ (fun _ => ?_) HF.out HB3
    rw [HS.out, ← HN.out]
    have ho := HOWN3.out
    rw [← HN.out] at ho
    exact owns_weaken ho (Nat.le_of_lt hs1)
  · have b1 : (lim == -1) = false := by rw [beq_eq_false_iff_ne]; exact hlim
    have HLIM := Lib.hid hlim
    clear hlim
    by_cases hn20 : n = 20
    · have HF : Hid (fullQ l u lim = true) := by show _ = _; unfold fullQ; rw [← HN.out]; simp [hn20, HLIM.out]
      subst hn20
      go_wp2
      go_ret2
      exact ⟨fun _ => rfl, fun h => by rw [HF.out] at h; exact absurd h (by simp), HB3⟩
    · have HF : Hid (fullQ l u lim = false) := by show _ = _; unfold fullQ; rw [← HN.out]; simp [hn20]
      have b2 : ((n : Int) == 20) = false := by rw [beq_eq_false_iff_ne]; omega
      have HS : Hid (setQ l u lim = (othQ l u).take P ++ [(u, lim)] ++ (othQ l u).drop P) := by show _ = _; unfold setQ; rw [if_neg HLIM.out, HP.out]
      have HQC := Lib.hid (rows_cells (RowAt.of_owns HOWN3.out))
      have HIN : Hid (∀ (W : World), Below w3.heap.size w3 W → Calls Try.prog 46 #[.slice q n c, .int .i64 (P : Int), .slice (some ⟨W.heap.size, 0, none⟩) 1 1] (W.alloc (.cells #[.int .i64 u, .int .i64 lim] 63)) (RowsRes w1.heap.size (setQ l u lim) (W.alloc (.cells #[.int .i64 u, .int .i64 lim] 63)))) := fun W hW => by
        have ho := owns_below HOWN3.out hW
        have := insert_any w1.heap.size P (.slice q n c) (othQ l u) u lim W.heap.size (W.alloc (.cells #[.int .i64 u, .int .i64 lim] 63)) (by have := hW.size; simp; omega) (by rw [← HN.out]; omega) (by rw [HP.out]; exact HPOS.out) (by rw [← HN.out]; have := ho.alloc (.cells #[.int .i64 u, .int .i64 lim] 63); rw [← HN.out] at this; exact this) (heap_alloc_new W _) (fun g hg => by have := (ho.lt g (by rw [← HN.out] at *; exact hg)).2; omega)
        rw [← HS.out] at this
        exact this
      have HOB : Hid (∀ g, q = some g → True) := fun _ _ => trivial
      go_wp2
      go_loopw [10] (fun i wr => ∃ k : Nat, k ≤ n ∧ i = .int .i64 k ∧ Hid (P = k + posQ ((othQ l u).drop k) u) ∧ Below w3.heap.size w3 wr) (fun i _ => n - (intOf i).toNat)
      case atStart => exact ⟨0, by omega, rfl, by show _ = _; rw [HP.out, List.drop_zero, Nat.zero_add], Below.refl _ _⟩
      case round =>
        obtain ⟨k, hk, rfl, HO, HB⟩ := hrel
        have hcu : wr.cell? ⟨w.heap.size, 0, none⟩ = some (.int .i64 u) := by rw [HB.cell (p := ⟨w.heap.size, 0, none⟩) (by show w.heap.size < _; omega)]; exact hcu3
        have fin2 : ∀ W v' w', P = k → Below w3.heap.size w3 W → RowsRes w1.heap.size (setQ l u lim) (W.alloc (.cells #[.int .i64 u, .int .i64 lim] 63)) (.returned v') w' → SetRes l u lim w (.returned (.tuple #[v', .int .i64 0])) w' := fun W v' w' _ hW hr => by
          obtain ⟨v'', hv, ho, hb, _⟩ := hr
          cases hv
          exact FIN.out _ _ (fun _ => owns_weaken ho (Nat.le_of_lt hs1)) HF.out ((HB3.trans (hW.mono (by omega))).trans ((((Below.refl _ W).alloc (Nat.le_refl _) _).mono (by have := hW.size; omega)).trans (hb.mono (by omega))))
        have FIN2 := Lib.hid fin2
        clear fin2
        by_cases hlt : k < n
        · have hkl : k < (othQ l u).length := by rw [← HN.out]; exact hlt
          have HD := posQ_drop (othQ l u) u k hkl
          obtain ⟨a', c', hv', HCC⟩ := HQC.out
          obtain ⟨g, o, rfl, hg, hc⟩ := HCC (by rw [← HN.out]; omega)
          rw [← HN.out] at hv'
          cases hv'
          obtain ⟨x, Hx⟩ : ∃ x, Hid (x = (othQ l u)[k].1) := ⟨(othQ l u)[k].1, rfl⟩
          have c0 : wr.cell? ⟨g, o + k * 2, none⟩ = some (.int .i64 x) := by rw [HB.cell (p := ⟨g, o + k * 2, none⟩) hg, (hc k hkl).1, Hx.out]
          rw [← Hx.out] at HD
          clear hc HCC
          by_cases hxu : x < u
          · have HO2 : Hid (P = k + 1 + posQ ((othQ l u).drop (k + 1)) u) := by show _ = _; rw [HO.out, HD, if_pos hxu]; omega
            have d1 : decide (x < u) = true := decide_eq_true hxu
            clear HD
            go_wp2
            go_quiet (fail)
            go_wp2
            go_roundw
            case rel => exact ⟨k + 1, by omega, by go_num, HO2, below_drewN HB _⟩
            case measure => simp [intOf]; omega
          · have HPK : Hid (P = k) := by show _ = _; rw [HO.out, HD, if_neg hxu]; rfl
            have d1 : decide (x < u) = false := decide_eq_false hxu
            clear HD
            go_wp2
            go_quiet (fail)
            go_wp2_with fail
            have HI2 := HIN.out
            rw [HPK.out] at HI2
            refine (HI2 _ (below_drewN HB _)).mono ?_
            rintro e w4 ⟨v4, rfl, hown4, hb4, hs4⟩
            have HRR := FIN2.out _ v4 w4 HPK.out (below_drewN HB _) ⟨v4, rfl, hown4, hb4, hs4⟩
            have HRH := Lib.hid HRR
            clear hown4 hb4 hs4 HRR HI2
            go_wp2
            go_ret2
            exact HRH.out
        · have hkn : k = n := by omega
          subst hkn
          have HPK : Hid (P = k) := by
            show _ = _
            rw [HO.out, List.drop_eq_nil_of_le (by rw [← HN.out]; omega)]
            rfl
          have d1 : decide (k < k) = false := decide_eq_false (by omega)
          have d2 : decide ((k : Int) < (k : Int)) = false := decide_eq_false (by omega)
          obtain ⟨z, hz⟩ : ∃ z : Nat, z = 0 := ⟨0, rfl⟩
          · go_wp2
            go_quiet (fail)
            go_wp2_with fail
            have HI2 := HIN.out
            rw [HPK.out] at HI2
            refine (HI2 _ (below_drewN HB _)).mono ?_
            rintro e w4 ⟨v4, rfl, hown4, hb4, hs4⟩
            have HRR := FIN2.out _ v4 w4 HPK.out (below_drewN HB _) ⟨v4, rfl, hown4, hb4, hs4⟩
            have HRH := Lib.hid HRR
            clear hown4 hb4 hs4 HRR HI2
            go_wp2
            go_ret2
            exact HRH.out

end Go.Proofs.Ytneknlbmiofmlaa
