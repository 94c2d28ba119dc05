/- extent.Of: the runs of a file's sectors. -/
import Derived.Test.YtneknlbmiofmlaaExt
namespace Go.Proofs.Ytneknlbmiofmlaa
open Go.RowKit

theorem extInfo : (Try.prog.info? 35).map (fun i => (i.zero, i.size, i.bytes)) = some (some (.agg #[.int .i64 0, .int .i64 0]), 2, 16) := by kernel_rfl
theorem extsT : Try.prog.underlying 25 = some (.slice 35) := by kernel_rfl

theorem two_cells {p q : Int} : ∀ u, u ∈ [Value.int .i64 p, Value.int .i64 q] → u.oneCell' = true := by
  intro u hu
  simp at hu
  rcases hu with rfl | rfl <;> rfl

/-- What Of answers. -/
def OfRes (l : List Int) (w : World) (e : Ending) (w' : World) : Prop :=
  ∃ v, e = .returned (.tuple #[v, .int .i64 0]) ∧ w'.ownsRow w.heap.size 35 2 v (ofR l).length (pairs (ofE l)) ∧ Below w.heap.size w w'

set_option maxHeartbeats 400000 in
theorem of_bad (v : Value) (l : List Int) (w : World) (h : IntsAt w v l) (hl : l.length ≤ 1000000) (c : Int) (hc : Hid (rightE l = c)) (hc0 : (c != 0) = true) :
    Calls Try.prog 16 #[v] w fun e w' => e = .returned (.tuple #[.slice none 0 0, .int .i64 c]) ∧ w = w' := by
  have H := Lib.hid h
  clear h
  go_enter Try.func16, Try.ntmps16
  go_wp2_with fail
  refine (right_any _ l _ H.out hl).mono ?_
  rw [hc.out]
  rintro e w' ⟨rfl, rfl⟩
  go_wp2
  go_ret2
  exact ⟨rfl, rfl⟩

set_option maxHeartbeats 1000000 in
theorem of_good (v : Value) (l : List Int) (w : World) (h : IntsAt w v l) (hr : rightE l = 0) :
    Calls Try.prog 16 #[v] w (OfRes l w) := by
  have hl8 : l.length ≤ 8 := by
    unfold rightE at hr
    split at hr
    · cases hr
    · omega
  have hin : ∀ p, p ∈ l → 0 ≤ p ∧ p ≤ 255 := fun p hp => by
    unfold rightE at hr
    split at hr
    · cases hr
    · split at hr
      · cases hr
      · rename_i hany
        have : badP p = false := by
          cases hb : badP p with
          | false => rfl
          | true => exact absurd (List.any_eq_true.2 ⟨p, hp, hb⟩) hany
        simp [badP] at this
        omega
  have HR := Lib.hid hr
  have HIN := Lib.hid hin
  have H := Lib.hid h
  clear hr hin h
  obtain ⟨i0, hi, hz0, hz1, hz2⟩ := info_parts extInfo
  have HI := Lib.hid hi
  have HZ0 := Lib.hid hz0
  have HZ1 := Lib.hid hz1
  have HZ2 := Lib.hid hz2
  clear hi hz0 hz1 hz2
  obtain ⟨n, Hn⟩ : ∃ n, Hid (n = l.length) := ⟨_, rfl⟩
  rw [← Hn.out] at hl8
  obtain ⟨p0, cap, hv, HC⟩ : ∃ p cap, v = .slice p n cap ∧ Hid (∀ (W : World), Below w.heap.size w W → ∀ k (hk : k < l.length), ∃ g off, p = some ⟨g, off, none⟩ ∧ W.cell? ⟨g, off + k, none⟩ = some (.int .i64 l[k])) := by
    obtain ⟨hlen, ⟨h0, a0, c0, hv⟩ | ⟨g, off, cap, hv, hc⟩⟩ := H.out
    · exact ⟨a0, c0, by rw [Hn.out, h0]; exact hv, fun W _ k hk => by omega⟩
    · refine ⟨_, cap, by rw [Hn.out]; exact hv, fun W hb k hk => ⟨g, off, rfl, ?_⟩⟩
      have := hc k _ (ints_get l k hk)
      exact (hb.cell (block_lt_of_cell this)).trans this
  subst hv
  go_enter Try.func16, Try.ntmps16
  go_wp2_with fail
  refine (right_any _ l _ H.out (by rw [← Hn.out]; omega)).mono ?_
  rw [HR.out]
  rintro e w' ⟨rfl, rfl⟩
  go_wp2
  go_loopw [5, 16] (fun o i wr => ∃ k : Nat, k ≤ n ∧ i = .int .i64 k ∧ Hid (wr.ownsRow w.heap.size 35 2 o (ofR (l.take k)).length (pairs (ofE (l.take k)))) ∧ Below w.heap.size w wr) (fun _ i _ => n - (intOf i).toNat)
  case atStart => exact ⟨0, Nat.zero_le _, rfl, World.ownsRow_nil _ _ _ _, Below.refl _ _⟩
  case round =>
    obtain ⟨k, hk, rfl, HO, HB⟩ := hrel
    by_cases hlt : k < n
    · have hkl : k < l.length := by rw [← Hn.out]; exact hlt
      obtain ⟨g, off, hp, hcell⟩ := HC.out wr HB k hkl
      subst hp
      obtain ⟨p, Hp⟩ : ∃ p, Hid (p = l[k]) := ⟨l[k], rfl⟩
      rw [← Hp.out] at hcell
      have hpr : 0 ≤ p ∧ p ≤ 255 := by rw [Hp.out]; exact HIN.out _ (List.getElem_mem hkl)
      obtain ⟨hp0, hp1⟩ := hpr
      have hok := ofR_ok k (l.take k) (by rw [List.length_take]; omega) (fun q hq => HIN.out q (List.mem_of_mem_take hq))
      have HS : Hid (ofR (l.take (k + 1)) = stepR (ofR (l.take k)) p) := by rw [← List.take_append_getElem hkl, ofR_snoc, Hp.out]; exact rfl
      unfold ofE at HO ⊢
      generalize ofR (l.take k) = R at *
      obtain ⟨hok, hRk⟩ := hok
      have HOK := Lib.hid hok
      clear hok
      cases R with
      | nil =>
        obtain ⟨c0, cp, hu⟩ : ∃ c0 cp, u5 = .slice c0 0 cp := by
          obtain ⟨_, ⟨rfl, _⟩ | ⟨g', cap', cur, rfl, _⟩⟩ := HO.out
          · exact ⟨_, _, rfl⟩
          · exact ⟨_, _, rfl⟩
        subst hu
        have hlt' := (HO.out.alloc (.cells #[.int .i64 p, .int .i64 1] 35)).lt
        go_wp2_with (first
          | (at_builtin; refine wpList_append_own _ rfl _ _ 25 rfl w.heap.size 35 i0 (.agg #[.int .i64 0, .int .i64 0]) 2 16 extsT HI.out HZ0.out HZ1.out HZ2.out rfl (by decide) _ _ _ rfl (HO.out.alloc _) ⟨wr.heap.size, 0, none⟩ 1 1 [.int .i64 p, .int .i64 1] rfl rfl (fun j u hu => new_cells _ #[.int .i64 p, .int .i64 1] _ j u hu) two_cells (by simp only [List.length_nil] at hRk ⊢; unfold maxLen; omega) (by simp only [List.length_nil] at hRk ⊢; omega) (by have := HB.size;  simp; omega) ?_; intro v' w4 hown hgrow _))
        have HO4 : Hid (w4.ownsRow w.heap.size 35 2 v' (ofR (l.take (k + 1))).length (pairs (ofE (l.take (k + 1))))) := by
          unfold ofE
          rw [HS.out, stepR_nil]
          have : w4.ownsRow w.heap.size 35 2 v' 1 (pairs [(p, 1)]) := by simpa [pairs] using hown
          exact this
        have HB4 : Below w.heap.size w w4 := Below.grown (HB.alloc HB.size _) hgrow (by have := HB.size; simp; omega) (fun q hq => (hlt' q hq).1)
        clear hown hgrow hlt'
        go_wp2
        go_roundw
        case rel => exact ⟨k + 1, by omega, by go_num, HO4, HB4⟩
        case measure => simp [intOf]; omega
      | cons x r =>
        obtain ⟨a, b⟩ := x
        have hab := HOK.out (a, b) (by simp)
        obtain ⟨ha0, ha1, hb0, hb1⟩ := hab
        obtain ⟨g', cap', cur, hu, hg', hh, hcap⟩ : ∃ g' cap' cur, u5 = .slice (some ⟨g', 0, none⟩) (r.length + 1) cap' ∧ w.heap.size ≤ g' ∧ Hid (wr.heap[g']? = some (.cells cur 35 (0, 0))) ∧ r.length + 1 ≤ cap' := by
          obtain ⟨_, ⟨rfl, h0⟩ | ⟨g', cap', cur, rfl, h1, h2, h3, _⟩⟩ := HO.out
          · simp at h0
          · exact ⟨g', cap', cur, rfl, h1, h2, h3⟩
        subst hu
        have HO2 : Hid (wr.ownsRow w.heap.size 35 2 (.slice (some ⟨g', 0, none⟩) (r.length + 1) cap') (r.length + 1) (pairs (r.reverse ++ [(a, b)]))) := by
          have := HO.out
          rw [List.reverse_cons] at this
          exact this
        clear HO
        have hRk' : r.length + 1 ≤ k := hRk
        clear hRk
        have hpl := pairs_last r.reverse (a, b)
        have hca : wr.cell? ⟨g', r.length * 2, none⟩ = some (.int .i64 a) := by
          rw [World.ownsRow.cellAt HO2.out _ (by omega)]; simpa using hpl.1
        have hcb : wr.cell? ⟨g', r.length * 2 + 1, none⟩ = some (.int .i64 b) := by
          rw [World.ownsRow.cellAt HO2.out _ (by omega)]; simpa using hpl.2
        clear hpl
        have hfz : wr.frozen? ⟨g', r.length * 2 + 1, none⟩ = false := frozen_of_row _ _ _ _ _ hh.out
        have HG : Hid (∀ W : World, Calls Try.prog 41 #[.agg #[.int .i64 a, .int .i64 b], .int .i64 p] W fun e w' => e = .returned (.bool (goesB (a, b) p)) ∧ Below W.heap.size W w') := fun W => goes_any a b p W ha0 (by omega) (by omega) (by omega)
        cases hgo : goesB (a, b) p
        · have HGO := Lib.hid hgo
          clear hgo
          go_wp2_with (first
            | (go_at_call 41; refine (HG.out _).mono ?_; rw [HGO.out]; rintro e w3 ⟨rfl, hb3⟩)
            | (at_builtin; refine wpList_append_own _ rfl _ _ 25 rfl w.heap.size 35 i0 (.agg #[.int .i64 0, .int .i64 0]) 2 16 extsT HI.out HZ0.out HZ1.out HZ2.out rfl (by decide) _ _ _ rfl ((owns_below HO2.out hb3).alloc _) ⟨w3.heap.size, 0, none⟩ 1 1 [.int .i64 p, .int .i64 1] rfl rfl (fun j u hu => new_cells _ #[.int .i64 p, .int .i64 1] _ j u hu) two_cells (by unfold maxLen; omega) (by omega) (by have := HB.size; have := hb3.size; simp; omega) ?_; intro v' w4 hown hgrow _))
          have HO4 : Hid (w4.ownsRow w.heap.size 35 2 v' (ofR (l.take (k + 1))).length (pairs (ofE (l.take (k + 1))))) := by
            unfold ofE
            rw [HS.out, stepR_no HGO.out, List.reverse_cons, List.reverse_cons, pairs_append (r.reverse ++ [(a, b)])]
            exact hown
          have HB4 : Below w.heap.size w w4 := Below.grown ((Below.step HB hb3).alloc (by have := HB.size; have := hb3.size; omega) _) hgrow (by have := HB.size; have := hb3.size; simp; omega) (fun q hq => by
            cases hq; exact hg')
          clear hown hgrow
          go_wp2
          go_roundw
          case rel => exact ⟨k + 1, by omega, by go_num, HO4, HB4⟩
          case measure => simp [intOf]; omega
        · have HGO := Lib.hid hgo
          clear hgo
          go_wp2_with (first
            | (go_at_call 41; refine (HG.out _).mono ?_; rw [HGO.out]; rintro e w3 ⟨rfl, hb3⟩; have hcb3 : w3.cell? ⟨g', r.length * 2 + 1, none⟩ = some (.int .i64 b) := (hb3.cell (block_lt_of_cell hcb)).trans hcb; have hfz3 : w3.frozen? ⟨g', r.length * 2 + 1, none⟩ = false := (hb3.frozen (block_lt_of_cell hcb)).trans hfz))
          go_roundw
          case rel =>
            refine ⟨k + 1, by omega, by go_num, ?_, (Below.step HB hb3).setCell hg' _⟩
            have h1 := (owns_below HO2.out hb3).stored (r.length * 2 + 1) (.int .i64 (b + 1))
            have h2 := pairs_set_last r.reverse a b (b + 1)
            rw [List.length_reverse] at h2
            rw [h2] at h1
            rw [HS.out, stepR_yes HGO.out, List.reverse_cons]
            exact h1.1
          case measure => simp [intOf]; omega
    · have hkn : k = n := by omega
      have HF : Hid (l.take k = l) := by rw [hkn, Hn.out]; exact List.take_length
      have HO2 : Hid (wr.ownsRow w.heap.size 35 2 u5 (ofR l).length (pairs (ofE l))) := by
        have := HO.out
        rw [HF.out] at this
        exact this
      clear hkn HO HF
      go_wp2
      go_ret2
      exact ⟨_, rfl, HO2.out, HB⟩

end Go.Proofs.Ytneknlbmiofmlaa
