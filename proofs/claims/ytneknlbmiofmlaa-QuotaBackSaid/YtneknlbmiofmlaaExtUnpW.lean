/- extent.Unpack, walked. -/
import Derived.Test.YtneknlbmiofmlaaExtUnp
import Derived.Deep.RegionHeld3
import Derived.Deep.AppendLies
namespace Go.Proofs.Ytneknlbmiofmlaa
open Go.RowKit

def UnpRes (bs : List Int) (w : World) (e : Ending) (w' : World) : Prop :=
  (goodB bs ∧ ∃ v, e = .returned (.tuple #[v, .int .i64 0]) ∧ IntsAt w' v (PtsOf bs).1 ∧ Below w.heap.size w w') ∨
  (¬ goodB bs ∧ e = .returned (.tuple #[.slice none 0 0, .int .i64 3]) ∧ Below w.heap.size w w')

/-- The same, the answer lying in new memory. -/
def UnpResN (bs : List Int) (w : World) (e : Ending) (w' : World) : Prop :=
  (goodB bs ∧ ∃ v, e = .returned (.tuple #[v, .int .i64 0]) ∧ IntsAt w' v (PtsOf bs).1 ∧ Below w.heap.size w w' ∧ ∀ b, v.ownBlock = some b → w.heap.size ≤ b) ∨
  (¬ goodB bs ∧ e = .returned (.tuple #[.slice none 0 0, .int .i64 3]) ∧ Below w.heap.size w w')
theorem UnpResN.weak {bs : List Int} {w w' : World} {e : Ending} (h : UnpResN bs w e w') : UnpRes bs w e w' :=
  h.imp (fun ⟨a, v, b, c, d, _⟩ => ⟨a, v, b, c, d⟩) id

theorem toList_inj {a b : ByteArray} (h : a.toList = b.toList) : a = b := by
  rw [ByteArray.toList_eq, ByteArray.toList_eq] at h
  cases a; cases b
  simp only [ByteArray.mk.injEq] at *
  exact Array.toList_inj.1 h
theorem runsE_in : ∀ (bs : List Int), (∀ x, x ∈ bs → 0 ≤ x ∧ x ≤ 255) → ∀ y, y ∈ runsE bs → (0 ≤ y.1 ∧ y.1 ≤ 255) ∧ 0 ≤ y.2 ∧ y.2 ≤ 255
  | [], _, y, hy => by simp [runsE] at hy
  | [_], _, y, hy => by simp [runsE] at hy
  | a :: n :: r, h, y, hy => by
    rw [runsE] at hy
    split at hy
    · rcases List.mem_cons.1 hy with rfl | hy
      · exact ⟨h a (by simp), h n (by simp)⟩
      · exact runsE_in r (fun x hx => h x (by simp [hx])) y hy
    · simp at hy
theorem packL_in {l : List (Int × Int)} (h : ∀ x, x ∈ l → (0 ≤ x.1 ∧ x.1 ≤ 255) ∧ 0 ≤ x.2 ∧ x.2 ≤ 255) : ∀ y, y ∈ packL l → 0 ≤ y ∧ y ≤ 255 := by
  intro y hy
  rcases List.mem_append.1 hy with hy | hy
  · obtain ⟨x, hx, hy⟩ := List.mem_flatMap.1 hy
    have := h x hx
    simp at hy
    rcases hy with rfl | rfl <;> omega
  · have := List.eq_of_mem_replicate hy
    omega
theorem packOf_in {P : List Int} (hr : rightE P = 0) : ∀ y, y ∈ packL (ofE P) → 0 ≤ y ∧ y ≤ 255 := by
  refine packL_in fun x hx => ?_
  have hl := right_len hr
  have := (ofR_ok P.length P rfl (right_in hr)).1 x (by simpa [ofE] using hx)
  omega
theorem packOf_len {P : List Int} (hr : rightE P = 0) : (packL (ofE P)).length = 16 := by
  have hl := right_len hr
  have := (ofR_ok P.length P rfl (right_in hr)).2
  simp only [packL, List.length_append, List.length_replicate, flatE_len]
  have e : (ofE P).length = (ofR P).length := by simp [ofE]
  omega
/-- The bytes of a block as a string. -/
theorem string_block (w : World) (g n : Nat) (ns : List Int) (t : TypeId) (hn : ns.length = n) (h : w.heap[g]? = some (.cells (byts ns) t (0, 0))) :
    (convert 37 9 (.slice (some ⟨g, 0, none⟩) n n)).run Try.prog w = .ok (.string (bytesS ns)) w :=
  run_string_of w 37 9 5 g 0 n n ns hn (by kernel_rfl) (by kernel_rfl) (by kernel_rfl) (fun j v hv => by
    rw [Nat.zero_add, cell_of_row _ _ _ _ _ _ h]
    simpa [byts] using hv)

set_option maxHeartbeats 400000 in
theorem unpack_short (v : Value) (bs : List Int) (w : World) (h : BytesAt w v bs) (hn : bs.length ≠ 16) (hl : bs.length ≤ 1000000) :
    Calls Try.prog 21 #[v] w (UnpResN bs w) := by
  have _ := hl
  obtain ⟨N, HN⟩ : ∃ N, Hid (N = bs.length) := ⟨_, rfl⟩
  obtain ⟨q, cp, hu⟩ : ∃ p cp, v = .slice p N cp := by
    rw [HN.out]
    obtain ⟨_, ⟨h0, a0, c0, rfl⟩ | ⟨g, o, cap, rfl, hc⟩⟩ := h
    · exact ⟨a0, c0, by rw [h0]⟩
    · exact ⟨_, cap, rfl⟩
  subst hu
  rw [← HN.out] at hl hn
  have hne : ((N : Int) != 16) = true := by rw [bne_iff_ne]; omega
  have HB : Hid (¬ goodB bs) := fun hg => hn (HN.out.trans hg.1)
  clear h hn
  go_enter Try.func21, Try.ntmps21
  go_wp2
  go_ret2
  exact Or.inr ⟨HB.out, rfl, Below.refl _ _⟩

set_option maxHeartbeats 2000000 in
theorem unpack_long (bs : List Int) (g off cap : Nat) (w : World) (hc : ∀ j (hj : j < bs.length), w.cell? ⟨g, off + j, none⟩ = some (.int .u8 bs[j])) (hn : bs.length = 16) (hx : ∀ x, x ∈ bs → 0 ≤ x ∧ x ≤ 255) :
    Calls Try.prog 21 #[.slice (some ⟨g, off, none⟩) 16 cap] w (UnpResN bs w) := by
  have HC := Lib.hid hc
  have HN := Lib.hid hn
  have HX := Lib.hid hx
  have HRI := Lib.hid (runsE_in bs hx)
  have hgl := 0
  clear hc hn hx hgl
  obtain ⟨i0, hi, hz0, hz1, hz2⟩ := info_parts extInfo
  have HI := Lib.hid hi
  have HZ0 := Lib.hid hz0
  have HZ1 := Lib.hid hz1
  have HZ2 := Lib.hid hz2
  clear hi hz0 hz1 hz2
  go_enter Try.func21, Try.ntmps21
  go_wp2
  go_loopw [4, 5] (fun o i wr => ∃ (k m : Nat) (acc : List (Int × Int)), m ≤ 16 ∧ i = .int .i64 m ∧ Hid (m = 2 * k ∧ acc.length = k) ∧ Hid (acc ++ runsE (bs.drop (2 * k)) = runsE bs) ∧ Hid (wr.ownsRow w.heap.size 35 2 o acc.length (pairs acc)) ∧ Below w.heap.size w wr) (fun _ i _ => 16 - (intOf i).toNat)
  case atStart => exact ⟨0, 0, [], by omega, rfl, ⟨rfl, rfl⟩, rfl, World.ownsRow_nil _ _ _ _, Below.refl _ _⟩
  case round =>
    obtain ⟨k, m, acc, hk, rfl, HM, HR, HO, HB⟩ := hrel
    by_cases hlt : m < 16
    · have hm14 : m ≤ 14 := by have := HM.out.1; omega
      have h1 : 2 * k < bs.length := by rw [HN.out]; have := HM.out.1; omega
      have h2 : 2 * k + 1 < bs.length := by rw [HN.out]; have := HM.out.1; omega
      have e1 := HC.out (2 * k) h1
      have e2 := HC.out (2 * k + 1) h2
      have c1 := (HB.cell (block_lt_of_cell e1)).trans e1
      have c2 := (HB.cell (block_lt_of_cell e2)).trans e2
      have r1 := HX.out _ (List.getElem_mem h1)
      have r2 := HX.out _ (List.getElem_mem h2)
      have hd := runsE_drop bs k h2
      obtain ⟨a, ha⟩ : ∃ a, Hid (a = bs[2 * k]) := ⟨bs[2 * k], rfl⟩
      obtain ⟨n, hn⟩ : ∃ n, Hid (n = bs[2 * k + 1]) := ⟨bs[2 * k + 1], rfl⟩
      rw [← ha.out] at c1 r1 hd
      rw [← hn.out] at c2 r2 hd
      rw [← HM.out.1] at c1 c2
      have HD := Lib.hid hd
      clear e1 e2 hd
      obtain ⟨ha0, ha1⟩ := r1
      obtain ⟨hn0, hn1⟩ := r2
      have hlt' := (HO.out.alloc (.cells #[.int .i64 a, .int .i64 n] 35)).lt
      have HLT := Lib.hid hlt'
      clear hlt'
      by_cases hn0 : 0 < n
      · have s1 : IntKind.i64.wrap ((m : Int) + 1) = (m : Int) + 1 := IntWalk.i64_in _ (by omega)
        have s2 : 0 ≤ (m : Int) + 1 := by omega
        have s3 : ((m : Int) + 1).toNat = m + 1 := by omega
        have s4 : (m : Int) + 1 < 16 := by omega
        have s5 : (m : Int) < 16 := by omega
        have s6 : IntKind.i64.wrap a = a := IntWalk.i64_in _ (by omega)
        have s7 : IntKind.i64.wrap n = n := IntWalk.i64_in _ (by omega)
        have hL : acc.length ≤ 7 := by have := HM.out; omega
        have ag : Value.ownBlock u4 ≠ some g := fun hq => by
          have h1 := (HLT.out g hq).1
          have h2 := block_lt_of_cell (HC.out 0 (by rw [HN.out]; omega))
          simp at h2; omega
        have AG := Lib.hid ag
        have hgw := block_lt_of_cell c1
        simp only at hgw
        have HBd : Hid (Below w.heap.size w wr.drew) := ⟨HB.os, HB.tape, HB.output, HB.size, HB.block⟩
        have HLTd : Hid (∀ q, Value.ownBlock u4 = some q → w.heap.size ≤ q) := fun q hq => (HLT.out q hq).1
        have hsz := HB.size
        clear ag
        go_wp2_with fail
        go_region_held3 (fun w' => w'.cell? ⟨g, off + m, none⟩ = some (.int .u8 a) ∧ w'.cell? ⟨g, off + (m + 1), none⟩ = some (.int .u8 n))
          (first
            | go_keep
            | (go_split_ands
               refine ⟨?_, ?_⟩
               · (rw [hgrow.cell_far _ (by simp; omega) (Ne.symm AG.out)]; assumption)
               · (rw [hgrow.cell_far _ (by simp; omega) (Ne.symm AG.out)]; assumption)))
          ((refine step_append_lies _ (by rfl) _ _ _ (by rfl) w.heap.size 35 i0 _ 2 16 extsT HI.out HZ0.out HZ1.out HZ2.out rfl (by omega) u4 acc.length (pairs acc) (by rfl) ((HO.out.alloc _).drew)
              ⟨wr.heap.size, 0, none⟩ 1 1 [.int .i64 a, .int .i64 n] (by rfl) (by rfl) (World.news_of_block (cs := #[.int .i64 a, .int .i64 n]) (t := 35) (fr := (0, 0)) (heap_alloc_new wr _)) (by simp [Value.oneCell'])
              (by omega) (by unfold maxLen; omega) (by omega) (by simp; omega) (wr.heap.size + 1) (by simp) ?_; intro gg cap' w4 hown hgrow hat hltt))
        have HO4 : Hid (w4.ownsRow w.heap.size 35 2 (.slice (some ⟨gg, 0, none⟩) (acc.length + 1) cap') (acc ++ [(a, n)]).length (pairs (acc ++ [(a, n)]))) := by
          rw [pairs_append, List.length_append]
          exact hown
        have HB4 : Below w.heap.size w w4 := Below.grown (below_drewN (HB.alloc HB.size _) 1) hgrow (by simp [World.drewN]; omega) HLTd.out
        have HR4 : Hid ((acc ++ [(a, n)]) ++ runsE (bs.drop (2 * (k + 1))) = runsE bs) := by
          rw [← HR.out, HD.out, if_pos hn0]; simp [Hid]
        clear hown hgrow hat hltt s1 s3 s6 s7
        go_wp2
        go_roundw
        case rel => exact ⟨k + 1, m + 2, acc ++ [(a, n)], by omega, by go_num, by have := HM.out; exact ⟨by omega, by simp; omega⟩, HR4, HO4, HB4⟩
        case measure => simp [intOf]; omega
      · have HRUN : Hid (acc = runsE bs) := by
          rw [← HR.out, HD.out, if_neg hn0]; simp [Hid]
        have hnz : n = 0 := by omega
        subst hnz
        have hL : acc.length ≤ 8 := by have := HM.out; omega
        obtain ⟨q2, c2, ho, _⟩ := owns_slice HO.out
        subst ho
        go_wp2_with fail
        refine (points_ext _ acc _ (RowAt.of_owns HO.out) (by omega) (fun x hx => by rw [HRUN.out] at hx; have := HRI.out x hx; omega)).mono ?_
        rintro e w3 (⟨h0, v, rfl, hown3, hb3⟩ | ⟨h0, rfl, hb3⟩)
        · have HPE : Hid ((PtsOf bs).2 = 0) := by rw [PtsOf, ← HRUN.out]; exact h0
          have HR0 : Hid (rightE (PtsOf bs).1 = 0) := ptsOf_right HPE.out
          have HI3 : Hid (IntsAt w3 v (PtsOf bs).1) := by
            have := RowAt.of_owns hown3
            rw [HRUN.out] at this; exact this
          have HNW : Hid (∀ b, v.ownBlock = some b → w.heap.size ≤ b) := fun b hb => Nat.le_trans HB.size (hown3.lt b hb).1
          clear h0 hown3
          have hB3 := Below.step HB hb3
          go_wp2_with fail
          refine (pack_good _ (PtsOf bs).1 _ HI3.out HR0.out).mono ?_
          rintro e w4 ⟨g4, rfl, hg4, hh4, hb4⟩
          have hB4 := Below.step hB3 hb4
          have hs1 := string_block w4 g4 16 _ _ (packOf_len HR0.out) hh4
          have hs2 : (convert 37 9 (.slice (some ⟨g, off, none⟩) 16 cap)).run Try.prog w4 = .ok (.string (bytesS bs)) w4 :=
            run_string_of w4 37 9 5 g off cap 16 bs HN.out (by kernel_rfl) (by kernel_rfl) (by kernel_rfl) (fun j x hx => by
              have hj : j < bs.length := by
                rcases Nat.lt_or_ge j bs.length with h | h
                · exact h
                · rw [List.getElem?_eq_none (by simpa using h)] at hx; cases hx
              have e : (bs.map (Value.int .u8))[j]? = some (.int .u8 bs[j]) := by simp [hj]
              rw [e] at hx
              cases hx
              have := HC.out j hj
              exact (hB4.cell (block_lt_of_cell this)).trans this)
          have HI4 : Hid (IntsAt w4 v (PtsOf bs).1) := RowAt.below HI3.out hb4
          clear hh4
          by_cases heq : packL (ofE (PtsOf bs).1) = bs
          · have HG : Hid (goodB bs) := ⟨HN.out, HPE.out, heq⟩
            rw [heq] at hs1
            clear heq
            generalize bytesS bs = S at hs1 hs2
            go_wp2
            go_ret2
            exact Or.inl ⟨HG.out, _, rfl, HI4.out, hB4, HNW.out⟩
          · have HG : Hid (¬ goodB bs) := fun h => heq h.2.2
            have hne : bytesS (packL (ofE (PtsOf bs).1)) ≠ bytesS bs := fun h => heq (bytesS_inj (packOf_in HR0.out) HX.out h)
            clear heq
            generalize bytesS bs = S at hs1 hs2 hne
            generalize bytesS (packL (ofE (PtsOf bs).1)) = S' at hs1 hs2 hne
            have hne2 : (S'.toList == S.toList) = false := by rw [beq_eq_false_iff_ne]; exact fun h => hne (toList_inj h)
            clear hne
            go_wp2
            go_ret2
            exact Or.inr ⟨HG.out, rfl, hB4⟩
        · have HG : Hid (¬ goodB bs) := fun h => h0 (by rw [HRUN.out]; exact h.2.1)
          generalize (ptsR acc []).2 = c at h0
          have hc0 : (c != 0) = true := by rw [bne_iff_ne]; exact h0
          have hB3 := Below.step HB hb3
          clear h0
          go_wp2
          go_ret2
          exact Or.inr ⟨HG.out, rfl, hB3⟩
    · have HRUN : Hid (acc = runsE bs) := by
        rw [← HR.out, List.drop_of_length_le (by rw [HN.out]; have := HM.out; omega)]; simp [Hid, runsE]
      have hL : acc.length ≤ 8 := by have := HM.out; omega
      obtain ⟨q2, c2, ho, _⟩ := owns_slice HO.out
      subst ho
      go_wp2_with fail
      refine (points_ext _ acc _ (RowAt.of_owns HO.out) (by omega) (fun x hx => by rw [HRUN.out] at hx; have := HRI.out x hx; omega)).mono ?_
      rintro e w3 (⟨h0, v, rfl, hown3, hb3⟩ | ⟨h0, rfl, hb3⟩)
      · have HPE : Hid ((PtsOf bs).2 = 0) := by rw [PtsOf, ← HRUN.out]; exact h0
        have HR0 : Hid (rightE (PtsOf bs).1 = 0) := ptsOf_right HPE.out
        have HI3 : Hid (IntsAt w3 v (PtsOf bs).1) := by
          have := RowAt.of_owns hown3
          rw [HRUN.out] at this; exact this
        have HNW : Hid (∀ b, v.ownBlock = some b → w.heap.size ≤ b) := fun b hb => Nat.le_trans HB.size (hown3.lt b hb).1
        clear h0 hown3
        have hB3 := Below.step HB hb3
        go_wp2_with fail
        refine (pack_good _ (PtsOf bs).1 _ HI3.out HR0.out).mono ?_
        rintro e w4 ⟨g4, rfl, hg4, hh4, hb4⟩
        have hB4 := Below.step hB3 hb4
        have hs1 := string_block w4 g4 16 _ _ (packOf_len HR0.out) hh4
        have hs2 : (convert 37 9 (.slice (some ⟨g, off, none⟩) 16 cap)).run Try.prog w4 = .ok (.string (bytesS bs)) w4 :=
          run_string_of w4 37 9 5 g off cap 16 bs HN.out (by kernel_rfl) (by kernel_rfl) (by kernel_rfl) (fun j x hx => by
            have hj : j < bs.length := by
              rcases Nat.lt_or_ge j bs.length with h | h
              · exact h
              · rw [List.getElem?_eq_none (by simpa using h)] at hx; cases hx
            have e : (bs.map (Value.int .u8))[j]? = some (.int .u8 bs[j]) := by simp [hj]
            rw [e] at hx
            cases hx
            have := HC.out j hj
            exact (hB4.cell (block_lt_of_cell this)).trans this)
        have HI4 : Hid (IntsAt w4 v (PtsOf bs).1) := RowAt.below HI3.out hb4
        clear hh4
        by_cases heq : packL (ofE (PtsOf bs).1) = bs
        · have HG : Hid (goodB bs) := ⟨HN.out, HPE.out, heq⟩
          rw [heq] at hs1
          clear heq
          generalize bytesS bs = S at hs1 hs2
          go_wp2
          go_ret2
          exact Or.inl ⟨HG.out, _, rfl, HI4.out, hB4, HNW.out⟩
        · have HG : Hid (¬ goodB bs) := fun h => heq h.2.2
          have hne : bytesS (packL (ofE (PtsOf bs).1)) ≠ bytesS bs := fun h => heq (bytesS_inj (packOf_in HR0.out) HX.out h)
          clear heq
          generalize bytesS bs = S at hs1 hs2 hne
          generalize bytesS (packL (ofE (PtsOf bs).1)) = S' at hs1 hs2 hne
          have hne2 : (S'.toList == S.toList) = false := by rw [beq_eq_false_iff_ne]; exact fun h => hne (toList_inj h)
          clear hne
          go_wp2
          go_ret2
          exact Or.inr ⟨HG.out, rfl, hB4⟩
      · have HG : Hid (¬ goodB bs) := fun h => h0 (by rw [HRUN.out]; exact h.2.1)
        generalize (ptsR acc []).2 = c at h0
        have hc0 : (c != 0) = true := by rw [bne_iff_ne]; exact h0
        have hB3 := Below.step HB hb3
        clear h0
        go_wp2
        go_ret2
        exact Or.inr ⟨HG.out, rfl, hB3⟩

end Go.Proofs.Ytneknlbmiofmlaa
