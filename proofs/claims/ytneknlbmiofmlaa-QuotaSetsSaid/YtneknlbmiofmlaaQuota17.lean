/- quota.Unpack of a sector. -/
import Derived.Test.YtneknlbmiofmlaaQuota16
import Derived.Deep.RegionHeld3
import Derived.Deep.AppendLies
namespace Go.Proofs.Ytneknlbmiofmlaa
open Go.RowKit

theorem getD_in (l : List Int) (i : Nat) (h : i < l.length) : l.getD i 0 = l[i] := by simp [h]
theorem unp_snoc (bs : List Int) (k : Nat) (x p q : Int) (h : rowB bs k = (x, p + q * 256)) : (List.range (k + 1)).map (rowB bs) = (List.range k).map (rowB bs) ++ [(x, p + q * 256)] := by
  rw [List.range_succ, List.map_append, List.map_cons, List.map_nil, h]

set_option maxRecDepth 100000 in
set_option maxHeartbeats 4000000 in
theorem unpackQ_long (bs : List Int) (g off cap : Nat) (N : Nat) (w : World) (hc : ∀ j (hj : j < bs.length), w.cell? ⟨g, off + j, none⟩ = some (.int .u8 bs[j])) (hn : bs.length = 64) (hx : ∀ x, x ∈ bs → 0 ≤ x ∧ x ≤ 255)
    (Hb : Hid (bs.getD 0 0 = (N : Int))) (hN : N ≤ 20) :
    Calls Try.prog 37 #[.slice (some ⟨g, off, none⟩) 64 cap] w (UnpQRes bs w) := by
  have x0 : w.cell? ⟨g, off, none⟩ = some (.int .u8 (N : Int)) := by
    have := hc 0 (by omega)
    rw [← getD_in bs 0 (by omega), Hb.out] at this
    exact this
  have HC := Lib.hid hc
  have HLN := Lib.hid hn
  have HX := Lib.hid hx
  have HRB : Hid (rowsB bs = (List.range N).map (rowB bs)) := by show _ = _; unfold rowsB; rw [Hb.out]; rfl
  have HRL : Hid ((rowsB bs).length = N) := by show _ = _; rw [HRB.out]; simp
  clear hc hn hx
  obtain ⟨i0, hi, hz0, hz1, hz2⟩ := info_parts rowInfo
  have HI := Lib.hid hi
  have HZ0 := Lib.hid hz0
  have HZ1 := Lib.hid hz1
  have HZ2 := Lib.hid hz2
  clear hi hz0 hz1 hz2
  have hgw : g < w.heap.size := block_lt_of_cell x0
  have sN : IntKind.i64.wrap (N : Int) = (N : Int) := IntWalk.i64_in _ (by omega)
  go_enter Try.func37, Try.ntmps37
  go_wp2
  go_loopw [4, 21] (fun o i wr => ∃ (k : Nat) (acc : List (Int × Int)), k ≤ N ∧ i = .int .i64 k ∧ Hid (acc = (List.range k).map (rowB bs)) ∧ acc.length = k ∧ Hid (wr.ownsRow w.heap.size 63 2 o acc.length (pairs acc)) ∧ Below w.heap.size w wr) (fun _ i _ => N - (intOf i).toNat)
  case atStart => exact ⟨0, [], by omega, rfl, rfl, rfl, World.ownsRow_nil _ _ _ _, Below.refl _ _⟩
  case round =>
    obtain ⟨k, acc, hk, rfl, HA, hal, HO, HB⟩ := hrel
    have hgr : g < wr.heap.size := Nat.lt_of_lt_of_le hgw HB.size
    by_cases hlt : k < N
    · have h1 : 3 * k + 1 < bs.length := by rw [HLN.out]; omega
      have h2 : 3 * k + 2 < bs.length := by rw [HLN.out]; omega
      have h3 : 3 * k + 3 < bs.length := by rw [HLN.out]; omega
      have e1 := HC.out _ h1
      have e2 := HC.out _ h2
      have e3 := HC.out _ h3
      have c1 := (HB.cell (block_lt_of_cell e1)).trans e1
      have c2 := (HB.cell (block_lt_of_cell e2)).trans e2
      have c3 := (HB.cell (block_lt_of_cell e3)).trans e3
      obtain ⟨r10, r11⟩ := HX.out _ (List.getElem_mem h1)
      obtain ⟨r20, r21⟩ := HX.out _ (List.getElem_mem h2)
      obtain ⟨r30, r31⟩ := HX.out _ (List.getElem_mem h3)
      have hrow : rowB bs k = (bs[3 * k + 1], bs[3 * k + 2] + bs[3 * k + 3] * 256) := by unfold rowB; rw [getD_in _ _ h1, getD_in _ _ h2, getD_in _ _ h3]
      generalize bs[3 * k + 1] = x at *
      generalize bs[3 * k + 2] = p at *
      generalize bs[3 * k + 3] = q at *
      obtain ⟨y, Hy⟩ : ∃ y, Hid (y = p + q * 256) := ⟨_, rfl⟩
      have HA2 : Hid (acc ++ [(x, y)] = (List.range (k + 1)).map (rowB bs)) := by show _ = _; rw [unp_snoc bs k x p q hrow, ← HA.out, Hy.out]
      have s1 : IntKind.i64.wrap (3 * (k : Int)) = 3 * (k : Int) := IntWalk.i64_in _ (by omega)
      have s2 : IntKind.i64.wrap (3 * (k : Int) + 1) = 3 * (k : Int) + 1 := IntWalk.i64_in _ (by omega)
      have s3 : IntKind.i64.wrap (3 * (k : Int) + 2) = 3 * (k : Int) + 2 := IntWalk.i64_in _ (by omega)
      have s4 : IntKind.i64.wrap (3 * (k : Int) + 3) = 3 * (k : Int) + 3 := IntWalk.i64_in _ (by omega)
      have t2 : (3 * (k : Int) + 1).toNat = 3 * k + 1 := by omega
      have t3 : (3 * (k : Int) + 2).toNat = 3 * k + 2 := by omega
      have t4 : (3 * (k : Int) + 3).toNat = 3 * k + 3 := by omega
      have u2 : 0 ≤ 3 * (k : Int) + 1 := by omega
      have u3 : 0 ≤ 3 * (k : Int) + 2 := by omega
      have u4' : 0 ≤ 3 * (k : Int) + 3 := by omega
      have v2 : 3 * (k : Int) + 1 < 64 := by omega
      have v3 : 3 * (k : Int) + 2 < 64 := by omega
      have v4 : 3 * (k : Int) + 3 < 64 := by omega
      have w1 : IntKind.i64.wrap x = x := IntWalk.i64_in _ (by omega)
      have w2 : IntKind.i64.wrap p = p := IntWalk.i64_in _ (by omega)
      have w3 : IntKind.i64.wrap q = q := IntWalk.i64_in _ (by omega)
      have w4 : IntKind.i64.wrap (q * 256) = q * 256 := IntWalk.i64_in _ (by omega)
      have ho1 : bits .or .i64 p (q * 256) = y := by rw [or_int _ _ r20 r21 r30 r31, Hy.out]
      have hL : acc.length ≤ 20 := by omega
      have hlt' := (HO.out.alloc (.cells #[.int .i64 x, .int .i64 y] 63)).lt
      have HLT := Lib.hid hlt'
      clear hlt' e1 e2 e3 hrow
      have ag : Value.ownBlock u4 ≠ some g := fun hq => by
        have h1 := (HLT.out g hq).1
        omega
      have AG := Lib.hid ag
      have HLTd : Hid (∀ q, Value.ownBlock u4 = some q → w.heap.size ≤ q) := fun q hq => (HLT.out q hq).1
      have hsz := HB.size
      clear ag x0
      go_wp2_with fail
      go_region_held3 (fun w' => w'.cell? ⟨g, off + (3 * k + 1), none⟩ = some (.int .u8 x) ∧ w'.cell? ⟨g, off + (3 * k + 2), none⟩ = some (.int .u8 p) ∧ w'.cell? ⟨g, off + (3 * k + 3), none⟩ = some (.int .u8 q))
        (first
          | go_keep
          | (go_split_ands
             refine ⟨?_, ?_, ?_⟩
             · (rw [hgrow.cell_far _ (by simp; omega) (Ne.symm AG.out)]; assumption)
             · (rw [hgrow.cell_far _ (by simp; omega) (Ne.symm AG.out)]; assumption)
             · (rw [hgrow.cell_far _ (by simp; omega) (Ne.symm AG.out)]; assumption)))
        ((refine step_append_lies _ (by rfl) _ _ _ (by rfl) w.heap.size 63 i0 _ 2 16 rowT HI.out HZ0.out HZ1.out HZ2.out rfl (by omega) u4 acc.length (pairs acc) (by rfl) ((HO.out.alloc _).drew)
            ⟨wr.heap.size, 0, none⟩ 1 1 [.int .i64 x, .int .i64 y] (by rfl) (by rfl) (World.news_of_block (cs := #[.int .i64 x, .int .i64 y]) (t := 63) (fr := (0, 0)) (heap_alloc_new wr _)) (by simp [Value.oneCell'])
            (by omega) (by unfold maxLen; omega) (by omega) (by simp; omega) (wr.heap.size + 1) (by simp) ?_; intro gg cap' w4 hown hgrow hat hltt))
      have HO4 : Hid (w4.ownsRow w.heap.size 63 2 (.slice (some ⟨gg, 0, none⟩) (k + 1) cap') (acc ++ [(x, y)]).length (pairs (acc ++ [(x, y)]))) := by
        show World.ownsRow _ _ _ _ _ _ _
        rw [pairs_append, List.length_append, ← hal]
        exact hown
      have HB4 : Below w.heap.size w w4 := Below.grown (below_drewN (HB.alloc HB.size _) 1) hgrow (by simp [World.drewN]; omega) HLTd.out
      clear hown hgrow hat hltt s1 s2 s3 s4 w1 w2 w3
      go_wp2
      go_roundw
      case rel => exact ⟨k + 1, acc ++ [(x, y)], by omega, by go_num, HA2, by simp; omega, HO4, HB4⟩
      case measure => simp [intOf]; omega
    · have hkN : k = N := by omega
      have HAR : Hid (acc = rowsB bs) := by show _ = _; rw [HA.out, HRB.out, hkN]
      have HRA : Hid (RowAt wr u4 2 (rowsB bs).length (pairs (rowsB bs))) := by have := RowAt.of_owns HO.out; rw [HAR.out] at this; exact this
      obtain ⟨q2, c2, ho, _⟩ := owns_slice HO.out
      rw [hal] at ho
      subst ho
      clear hal HA HO
      subst hkN
      by_cases hr : rightQ (rowsB bs) = 0
      · have HR := Lib.hid hr
        clear hr
        go_wp2_with fail
        refine (packQ_good _ (rowsB bs) _ HRA.out HR.out).mono ?_
        rintro e w4 ⟨g4, rfl, hg4, hh4, hb4⟩
        have hB4 := Below.step HB hb4
        have HBY : Hid (BytesAt w4 (.slice (some ⟨g4, 0, none⟩) 64 64) (packQ (rowsB bs).length (rowsB bs))) := u8_block (packQ_len _ _ (by rw [HRL.out]; omega)) hh4
        have HR4 : Hid (RowAt w4 (.slice q2 k c2) 2 (rowsB bs).length (pairs (rowsB bs))) := RowAt.below HRA.out hb4
        have HB5 : Hid (BytesAt w4 (.slice (some ⟨g, off, none⟩) 64 cap) bs) := by
          refine ⟨by rw [u8s_len]; omega, Or.inr ⟨g, off, cap, by rw [HLN.out], fun j x hx => ?_⟩⟩
          have hj : j < bs.length := by
            rcases Nat.lt_or_ge j bs.length with h | h
            · exact h
            · rw [List.getElem?_eq_none (by rw [u8s_len]; omega)] at hx; cases hx
          rw [u8s_get _ _ hj] at hx
          cases hx
          have := HC.out j hj
          exact (hB4.cell (block_lt_of_cell this)).trans this
        have HPL : Hid ((packQ (rowsB bs).length (rowsB bs)).length = 64) := packQ_len _ _ (by rw [HRL.out]; omega)
        obtain ⟨PB, HPB⟩ : ∃ PB, Hid (packQ (rowsB bs).length (rowsB bs) = PB) := ⟨_, rfl⟩
        rw [HPB.out] at HPL HBY
        clear hh4 hb4
        go_wp2_with fail
        refine (equalBytes_dec _ _ _ bs _ HBY.out HB5.out (by rw [HPL.out, HLN.out]) (by rw [HPL.out]; omega)).mono ?_
        obtain ⟨q, Hq⟩ : ∃ q, Hid (eqB PB bs = q) := ⟨_, rfl⟩
        rw [Hq.out]
        rintro e w5 ⟨rfl, hb5⟩
        have hB5 := Below.step hB4 hb5
        have HR5 : Hid (RowAt w5 (.slice q2 k c2) 2 (rowsB bs).length (pairs (rowsB bs))) := RowAt.below HR4.out hb5
        clear hb5
        cases q with
        | true =>
          have HG : Hid (goodQB bs) := ⟨HLN.out, by rw [Hb.out]; omega, HR.out, by rw [HPB.out]; exact of_decide_eq_true Hq.out⟩
          go_wp2
          go_ret2
          exact Or.inl ⟨HG.out, _, rfl, HR5.out, hB5⟩
        | false =>
          have HG : Hid (¬ goodQB bs) := fun h => by
            have h2 := h.2.2.2
            rw [HPB.out] at h2
            exact absurd (decide_eq_true h2) (by have := Hq.out; unfold eqB at this; rw [this]; simp)
          go_wp2
          go_ret2
          exact Or.inr ⟨HG.out, rfl, hB5⟩
      · have HG : Hid (¬ goodQB bs) := fun h => hr h.2.2.1
        obtain ⟨c, HCR⟩ : ∃ c, Hid (rightQ (rowsB bs) = c) := ⟨_, rfl⟩
        have hc0 : (c != 0) = true := by rw [bne_iff_ne, ← HCR.out]; exact hr
        clear hr
        go_wp2_with fail
        refine (packQ_bad _ (rowsB bs) _ HRA.out (by rw [HRL.out]; omega) c HCR hc0).mono ?_
        rintro e w4 ⟨rfl, hb4⟩
        have hB4 := Below.step HB hb4
        clear hb4
        go_wp2
        go_ret2
        exact Or.inr ⟨HG.out, rfl, hB4⟩

theorem unpackQ_any (v : Value) (bs : List Int) (w : World) (h : BytesAt w v bs) (hx : ∀ x, x ∈ bs → 0 ≤ x ∧ x ≤ 255) (hl : bs.length ≤ 1000000) :
    Calls Try.prog 37 #[v] w (UnpQRes bs w) := by
  by_cases hn : bs.length = 64
  · obtain ⟨_, ⟨h0, _⟩ | ⟨g, off, cap, rfl, hc⟩⟩ := h
    · omega
    · have hc' : ∀ j (hj : j < bs.length), w.cell? ⟨g, off + j, none⟩ = some (.int .u8 bs[j]) := fun j hj => hc j _ (u8s_get bs j hj)
      rw [hn]
      have h0 := hx _ (List.getElem_mem (by omega : 0 < bs.length))
      by_cases h20 : 20 < bs[0]
      · exact unpackQ_many bs g off cap bs[0] w (hc' 0 (by omega)) (getD_in bs 0 (by omega)).symm h20 h0.2
      · exact unpackQ_long bs g off cap bs[0].toNat w hc' hn hx (by show _ = _; rw [getD_in bs 0 (by omega)]; omega) (by omega)
  · exact unpackQ_short v bs w h hn hl

end Go.Proofs.Ytneknlbmiofmlaa
