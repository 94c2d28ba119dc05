/- DirFinds, walked. -/
import Derived.Test.YtheiaebmemcbhaaDoorDirFact
namespace Go.Proofs.YtheiaebmemcbhaaDoor
open Go.RowKit

/-- How high the tree of n entries is. -/
def highF : Nat → Nat → Nat
  | 0, _ => 0
  | f + 1, m => if m = 0 then 0 else highF f (m / 2) + 1
def highN (n : Nat) : Nat := highF 64 n
def FindOk (D : List Int) (n : Nat) (name : ByteArray) (r : Int × Nat × Int) : Prop :=
  (r.2.2 = 0 ∧ (∃ x ∈ (ino n 0).map (rdE D), x.1 = name ∧ r.1 = x.2) ∧ 1 ≤ r.2.1 ∧ 2 ^ (r.2.1 - 1) ≤ n) ∨ (r.2.2 = 4 ∧ r.1 = 0 ∧ (∀ x ∈ (ino n 0).map (rdE D), x.1 ≠ name) ∧ (r.2.1 = 0 ∨ 2 ^ (r.2.1 - 1) ≤ n))
theorem findF_ok (D : List Int) (n : Nat) (name : ByteArray) (hn : n ≤ 32) (hS : Rising ((ino n 0).map (rdE D))) : ∀ (f at_ k : Nat), f + k = 7 → FInv D n name at_ k → FindOk D n name (findF D n name f at_ k) := by
  intro f
  induction f with
  | zero =>
    intro at_ k hfk h
    have hp := h.pow
    have hk : k = 7 := by omega
    subst hk
    exact Or.inr ⟨rfl, rfl, h.none (by omega), h.few⟩
  | succ f ih =>
    intro at_ k hfk h
    rw [findF]
    by_cases hat : at_ < n
    · rw [if_pos hat]
      by_cases h0 : cmpB name (rdE D at_).1 = 0
      · rw [if_pos h0]
        have he : name = (rdE D at_).1 := by
          unfold cmpB at h0
          by_cases h1 : lexB name (rdE D at_).1 = true
          · rw [if_pos h1] at h0; cases h0
          · rw [if_neg h1] at h0
            by_cases h2 : name = (rdE D at_).1
            · exact h2
            · rw [if_neg h2] at h0; cases h0
        obtain ⟨x, hx, h1, h2⟩ := h.found hat he
        exact Or.inl ⟨rfl, ⟨x, hx, h1, h2.symm⟩, by show 1 ≤ k + 1; omega, by show 2 ^ (k + 1 - 1) ≤ n; rw [Nat.add_sub_cancel]; exact h.looks hat⟩
      · rw [if_neg h0]
        by_cases h1 : cmpB name (rdE D at_).1 < 0
        · rw [if_pos h1]
          have h2 : lexB name (rdE D at_).1 = true := by
            have := cmp_neg name (rdE D at_).1
            rw [decide_eq_true h1] at this; exact this.symm
          exact ih _ _ (by omega) (h.left hat hS h2)
        · rw [if_neg h1]
          have h2 : lexB (rdE D at_).1 name = true := by
            have h3 : lexB name (rdE D at_).1 = false := by
              have := cmp_neg name (rdE D at_).1
              rw [decide_eq_false h1] at this; exact this.symm
            cases h4 : lexB (rdE D at_).1 name with
            | true => rfl
            | false =>
              exfalso
              apply h0
              unfold cmpB
              rw [if_neg (by rw [h3]; decide), if_pos (lex_total h3 h4)]
          exact ih _ _ (by omega) (h.right hat hS h2)
    · rw [if_neg hat]
      exact Or.inr ⟨rfl, rfl, h.none (by omega), h.few⟩
theorem high_le : (List.range 33).all (fun n => decide (highN n ≤ 6) && (List.range 8).all fun k => decide (2 ^ k ≤ n → k + 1 ≤ highN n)) = true := by decide +kernel
theorem high_ok {n : Nat} (hn : n ≤ 32) : highN n ≤ 6 ∧ ∀ k, 2 ^ k ≤ n → k + 1 ≤ highN n := by
  have h := (List.all_eq_true.1 high_le) n (List.mem_range.2 (by omega))
  simp only [Bool.and_eq_true, decide_eq_true_eq, List.all_eq_true] at h
  refine ⟨h.1, fun k hk => ?_⟩
  by_cases h8 : k < 8
  · exact h.2 k (List.mem_range.2 h8) hk
  · have : 2 ^ 8 ≤ 2 ^ k := Nat.pow_le_pow_right (by omega) (by omega)
    omega
theorem findD_ok {l : List En} (hr : rightD l = 0) (name : ByteArray) : (∃ x ∈ l, x.1 = name ∧ (findD (layD l) name).1 = x.2 ∧ (findD (layD l) name).2.2 = 0 ∧ 1 ≤ (findD (layD l) name).2.1 ∧ (findD (layD l) name).2.1 ≤ highN l.length) ∨ ((∀ x ∈ l, x.1 ≠ name) ∧ (findD (layD l) name).1 = 0 ∧ (findD (layD l) name).2.2 = 4 ∧ (findD (layD l) name).2.1 ≤ highN l.length) := by
  have hl := (rightD_zero l).1 hr
  have hn : (layD l).length / 16 = l.length := by rw [layD_len hr]; omega
  have ho := outD_lay hr
  have hS : Rising ((ino l.length 0).map (rdE (layD l))) := by
    have := (list_rising (list_lay hr)).1
    unfold outD at this
    rw [hn] at this
    exact this
  have hm : ∀ x, x ∈ (ino l.length 0).map (rdE (layD l)) ↔ x ∈ l := fun x => by
    have : (ino l.length 0).map (rdE (layD l)) = outD (layD l) := by unfold outD; rw [hn]
    rw [this, ho]
    exact (sortD_perm l).mem_iff
  have key := findF_ok (layD l) l.length name hl.1 hS 7 0 0 rfl (FInv.start _ _ _)
  have e : findF (layD l) l.length name 7 0 0 = findD (layD l) name := by unfold findD; rw [hn]
  rw [e] at key
  obtain ⟨_, hh⟩ := high_ok hl.1
  rcases key with ⟨h1, ⟨x, hx, h2, h3⟩, h4, h5⟩ | ⟨h1, h2, h3, h4⟩
  · refine Or.inl ⟨x, (hm x).1 hx, h2, h3, h1, h4, ?_⟩
    have := hh _ h5
    omega
  · refine Or.inr ⟨fun x hx => h3 x ((hm x).2 hx), h2, h1, ?_⟩
    rcases h4 with h4 | h4
    · omega
    · have := hh _ h4
      omega
/-- The loop that reckons it. -/
def HLoop (n m h : Nat) : Prop := ∃ f, highF f m + h = highN n ∧ m < 2 ^ f
theorem HLoop.start {n : Nat} (hn : n ≤ 1000000) : HLoop n n 0 := ⟨64, rfl, by omega⟩
theorem HLoop.step {n m h : Nat} (x : HLoop n m h) (hm : 0 < m) : HLoop n (m / 2) (h + 1) := by
  obtain ⟨f, h1, h2⟩ := x
  cases f with
  | zero => simp at h2; omega
  | succ f =>
    refine ⟨f, ?_, by rw [Nat.pow_succ] at h2; omega⟩
    rw [highF, if_neg (by omega)] at h1
    omega
theorem HLoop.le {n m h : Nat} (x : HLoop n m h) : h ≤ highN n := by
  obtain ⟨f, h1, _⟩ := x
  omega
theorem HLoop.stop {n h : Nat} (x : HLoop n 0 h) : h = highN n := by
  obtain ⟨f, h1, _⟩ := x
  cases f with
  | zero => rw [highF] at h1; omega
  | succ f => rw [highF, if_pos rfl] at h1; omega

theorem nodup_same {l : List En} (h : (l.map (·.1)).Nodup) {x y : En} (hx : x ∈ l) (hy : y ∈ l) (he : x.1 = y.1) : x = y := by
  induction l with
  | nil => cases hx
  | cons a l ih =>
    rw [List.map_cons, List.nodup_cons] at h
    rcases List.mem_cons.1 hx with e1 | hx2
    · rcases List.mem_cons.1 hy with e2 | hy2
      · rw [e1, e2]
      · exact (h.1 (List.mem_map.2 ⟨y, hy2, by rw [← he, e1]⟩)).elim
    · rcases List.mem_cons.1 hy with e2 | hy2
      · exact (h.1 (List.mem_map.2 ⟨x, hx2, by rw [he, e2]⟩)).elim
      · exact ih h.2 hx2 hy2
set_option maxRecDepth 100000 in
set_option maxHeartbeats 4000000 in
theorem finds_law (v : Value) (l : List En) (name : ByteArray) (w : World) (h : EntsIn w v l) (hs : ∀ x, x ∈ l → x.1.size ≤ maxLen) :
    Calls Tryd.prog 3 #[v, .string name] w fun e w' => e = .returned (.bool true) ∧ Below w.heap.size w w' := by
  obtain ⟨N, HN⟩ : ∃ N, Hid (N = l.length) := ⟨_, rfl⟩
  obtain ⟨p, cp, rfl, hp⟩ := ents_open h.1 N HN.out
  obtain ⟨w0, HW0⟩ : ∃ W, Hid (w.alloc (.cells #[.string name] 9) = W) := ⟨_, rfl⟩
  have hb0 : Below w.heap.size w w0 := by rw [← HW0.out]; exact (Below.refl _ _).alloc (Nat.le_refl _) _
  have hx0 : w0.heap[w.heap.size]? = some (.cells #[.string name] 9 (0, 0)) := by rw [← HW0.out]; exact heap_alloc_new _ _
  have HX0 := Lib.hid hx0
  have HB0 := Lib.hid hb0
  have HIN := Lib.hid h
  have HS := Lib.hid hs
  have HP := Lib.hid hp
  clear h hs hb0 hx0 hp
  go_enter Tryd.func3, Tryd.ntmps3
  go_wp2_with fail
  rw [HW0.out]
  refine (laid_true _).mono ?_
  rintro e w1 ⟨rfl, hb1⟩
  have HB1 : Hid (Below w.heap.size w w1) := Below.step HB0.out hb1
  have hx1 := (hb1.block _ (heap_lt HX0.out)).trans HX0.out
  have HX1 := Lib.hid hx1
  clear hb1 hx1
  obtain ⟨eb, Heb⟩ : ∃ b, Hid (entB l = b) := ⟨_, rfl⟩
  have hent := entries_any _ l w1 (HIN.out.below HB1.out).1 HS.out
  rw [Heb.out] at hent
  have HENT := Lib.hid hent
  clear hent
  go_wp2_with fail
  refine HENT.out.mono ?_
  rintro e w2 ⟨rfl, hb2⟩
  have HB2 : Hid (Below w.heap.size w w2) := Below.step HB1.out hb2
  have hx2 := (hb2.block _ (heap_lt HX1.out)).trans HX1.out
  have a2 : w2.cell? ⟨w.heap.size, 0, none⟩ = some (.string name) := cell_of_row _ _ _ _ _ _ hx2
  have HX2 := Lib.hid hx2
  clear hb2 hx2
  cases eb with
  | false =>
    go_wp2
    go_ret
    exact ⟨rfl, HB2.out⟩
  | true =>
  have h40 : N ≤ 40 := by
    have := Heb.out
    unfold entB at this
    rw [Bool.and_eq_true, decide_eq_true_eq] at this
    rw [HN.out]; exact this.1
  by_cases h50 : 50 < name.size
  · have h50i : (50 : Int) < (name.size : Int) := by omega
    go_wp2
    go_ret
    exact ⟨rfl, HB2.out⟩
  have h50i : ¬ (50 : Int) < (name.size : Int) := by omega
  by_cases hr : rightD l = 0
  case neg =>
    obtain ⟨r, Hr⟩ : ∃ r, Hid (rightD l = r) := ⟨_, rfl⟩
    have hr0 := hr
    rw [Hr.out] at hr0
    have HL := Lib.hid (lay_bad _ l w2 (HIN.out.below HB2.out) (by rw [← HN.out]; omega) r Hr.out hr0)
    clear hr
    have b1 : (r == 0) = false := by rw [beq_eq_false_iff_ne]; exact hr0
    have b2 : (r != 0) = true := by simp [bne, b1]
    go_wp2_with fail
    refine HL.out.mono ?_
    rintro e w3 ⟨rfl, hb3⟩
    have HB3 : Hid (Below w.heap.size w w3) := Below.step HB2.out hb3
    clear hb3
    go_wp2
    go_ret
    exact ⟨rfl, HB3.out⟩
  case pos =>
  have HL := Lib.hid (lay_ok _ l w2 (HIN.out.below HB2.out) hr)
  have HR := Lib.hid hr
  clear hr
  go_wp2_with fail
  refine HL.out.mono ?_
  rintro e w3 ⟨v3, rfl, hv3, hb3⟩
  have HB3 : Hid (Below w.heap.size w w3) := Below.step HB2.out hb3
  have hx3 := (hb3.block _ (heap_lt HX2.out)).trans HX2.out
  have a3 : w3.cell? ⟨w.heap.size, 0, none⟩ = some (.string name) := cell_of_row _ _ _ _ _ _ hx3
  have HX3 := Lib.hid hx3
  have hf := find_any v3 (layD l) name w3 hv3 (byteL_lay HR.out) (list_lay HR.out)
  have hok := findD_ok HR.out name
  rw [← HN.out] at hok
  obtain ⟨q1, Hq1⟩ : ∃ q, Hid ((findD (layD l) name).1 = q) := ⟨_, rfl⟩
  obtain ⟨q2, Hq2⟩ : ∃ q, Hid ((findD (layD l) name).2.1 = q) := ⟨_, rfl⟩
  obtain ⟨q3, Hq3⟩ : ∃ q, Hid ((findD (layD l) name).2.2 = q) := ⟨_, rfl⟩
  unfold FindRes at hf
  rw [Hq1.out, Hq2.out, Hq3.out] at hf hok
  have HF := Lib.hid hf
  have HOK := Lib.hid hok
  clear hf hok hv3 hb3 hx3
  go_wp2_with fail
  refine HF.out.mono ?_
  rintro e w4 ⟨rfl, hb4⟩
  have HB4 : Hid (Below w.heap.size w w4) := Below.step HB3.out hb4
  have hx4 := (hb4.block _ (heap_lt HX3.out)).trans HX3.out
  have HX4 := Lib.hid hx4
  clear hb4 hx4
  go_wp2
  go_loopw [10, 11] (fun s10 s11 wr => ∃ hi m : Nat, hi ≤ 1000 ∧ m ≤ N ∧ s10 = .int .i64 (hi : Int) ∧ s11 = .int .i64 (m : Int) ∧ Hid (HLoop N m hi) ∧ wr = w4) (fun _ s11 _ => (intOf s11).toNat)
  case atStart => exact ⟨0, N, by omega, Nat.le_refl _, rfl, rfl, HLoop.start (by omega), rfl⟩
  case round =>
    obtain ⟨hi, m, hhi, hm, rfl, rfl, HHL, rfl⟩ := hrel
    have h32 : N ≤ 32 := by rw [HN.out]; exact ((rightD_zero l).1 HR.out).1
    have hh6 := (high_ok h32).1
    by_cases hm0 : m = 0
    · subst hm0
      have hhi := HHL.out.stop
      subst hhi
      obtain ⟨H, HH⟩ : ∃ H, Hid (highN N = H) := ⟨_, rfl⟩
      rw [HH.out] at HOK hh6 ⊢
      have a4 : wr.cell? ⟨w.heap.size, 0, none⟩ = some (.string name) := cell_of_row _ _ _ _ _ _ HX4.out
      have hcl := idx1_any 14 findC_any_fid (.pointer (some ⟨w.heap.size, 0, none⟩)) (fun y => decide (name = y.1)) _ l wr (HIN.out.below HB4.out).1 (by rw [← HN.out]; omega) (fun y _ W hW => findC_any name y w.heap.size W (by rw [hW.cell (block_lt_of_cell a4)]; exact a4))
      have HCL := Lib.hid hcl
      clear hcl a4
      go_wp2_with fail
      refine HCL.out.mono ?_
      rintro e w5 ⟨r, rfl, hr, hb5⟩
      have HB5 : Hid (Below w.heap.size w w5) := Below.step HB4.out hb5
      clear hb5
      rcases HOK.out with ⟨x, hx, k1, k2, k3, k4, k5⟩ | ⟨k1, k2, k3, k4⟩
      · obtain ⟨rfl, hnone⟩ | ⟨i, hi, rfl, hT, _⟩ := hr
        · have h9 : decide (name = x.1) = false := hnone x hx
          rw [k1] at h9
          simp at h9
        have hT2 : name = l[i].1 := by simpa using hT
        have hxi : x = l[i] := nodup_same ((rightD_zero l).1 HR.out).2.2 hx (List.getElem_mem hi) (by rw [k1, hT2])
        have hiN : i < N := by rw [HN.out]; exact hi
        obtain ⟨g, o, rfl, hg, hc⟩ := HP.out (by omega)
        have hck := (hc i hi).2
        rw [← hxi, ← k2] at hck
        have c5 : w5.cell? ⟨g, o + (i * 2 + 1), none⟩ = some (.int .i64 q1) := (HB5.out.cell (p := ⟨g, o + (i * 2 + 1), none⟩) hg).trans hck
        have c6 := c5
        rw [← Nat.add_assoc] at c6
        have hiNi : (i : Int) < (N : Int) := by omega
        have hneg : ¬ (i : Int) < 0 := by omega
        have d1 : (1 : Int) ≤ (q2 : Int) := by omega
        have d2 : (q2 : Int) ≤ (H : Int) := by omega
        have d3 : (H : Int) ≤ 6 := by omega
        subst k3
        clear hc hck k1 k2 k4 k5 hT hT2 hxi hx
        go_wp2
        go_ret
        exact ⟨rfl, HB5.out⟩
      · obtain ⟨rfl, _⟩ | ⟨i, hi, rfl, hT, _⟩ := hr
        · have d2 : (q2 : Int) ≤ (H : Int) := by omega
          subst k2 k3
          clear k1 k4
          go_wp2
          go_ret
          exact ⟨rfl, HB5.out⟩
        · have := k1 l[i] (List.getElem_mem hi)
          simp at hT
          exact absurd hT.symm this
    · have hmi : (0 : Int) < (m : Int) := by omega
      have hst := HHL.out.step (by omega)
      have hle := hst.le
      obtain ⟨m2, Hm2⟩ : ∃ a, Hid (m / 2 = a) := ⟨_, rfl⟩
      obtain ⟨h2, Hh2⟩ : ∃ a, Hid (hi + 1 = a) := ⟨_, rfl⟩
      have hq : (m : Int).tdiv 2 = (m2 : Int) := by rw [← Hm2.out]; rfl
      have wq : IntKind.i64.wrap ((hi : Int) + 1) = (h2 : Int) := by rw [IntWalk.i64_in _ (by omega)]; have := Hh2.out; omega
      rw [Hm2.out, Hh2.out] at hst
      have HST := Lib.hid hst
      have hm2 : m2 ≤ N := by have := Hm2.out; omega
      have hm3 : m2 < m := by have := Hm2.out; omega
      have hh2 : h2 ≤ 1000 := by have := Hh2.out; omega
      clear hst
      go_wp2
      go_roundw
      case rel => exact ⟨h2, m2, hh2, hm2, rfl, rfl, HST.out, by first | rfl | trivial⟩
      case measure => simp [intOf]; omega
end Go.Proofs.YtheiaebmemcbhaaDoor
