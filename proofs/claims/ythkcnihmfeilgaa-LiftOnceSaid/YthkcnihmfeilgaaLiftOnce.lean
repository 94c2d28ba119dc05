/- LiftOnce: between two barriers each sector is gone to once, and none is new or left out: the statement in full, for all inputs, no condition. -/
import Derived.Test.YthkcnihmfeilgaaLifted
import Derived.Test.YthkcnihmfeilgaaLiftOnceP
import Derived.Test.YthkcnihmfeilgaaIntsIn
import Derived.Test.YthkcnihmfeilgaaEqI
import Derived.Test.YthkcnihmfeilgaaPutClone
import Derived.Test.YthkcnihmfeilgaaOpenPuts
import Derived.Test.YthkcnihmfeilgaaOpenInts
import Derived.Test.YthkcnihmfeilgaaLawEnd
import Derived.ChangeShapes
namespace Go.Proofs.Ythkcnihmfeilgaa
open Go.ChangeShapes Go.WideShapes Go.ChangeAt Go.RowKit

theorem intInfoO : (Try.prog.info? 3).map (fun i => (i.zero, i.size, i.bytes)) = some (some (.int .i64 0), 1, 8) := by kernel_rfl
theorem intsTO : Try.prog.underlying 38 = some (.slice 3) := by kernel_rfl
theorem light_le1 {l : List (Int × ByteArray)} (h : lightB l = true) : l.length ≤ 60 := by unfold lightB at h; simp at h; exact h.1
theorem asks_le1 (l : List (Int × ByteArray)) : (asksF l).length = l.length := by unfold asksF; rw [List.length_map]
theorem ints_own_at {w : World} {base : Nat} {v : Value} {l : List Int} (h : w.ownsRow base 3 1 v l.length (ints l)) : IntsAt w v l := RowAt.of_owns h
theorem ints_snoc (l : List Int) (x : Int) : ints (l ++ [x]) = ints l ++ [.int .i64 x] := by simp [ints]

set_option maxRecDepth 100000 in
set_option maxHeartbeats 4000000 in
theorem liftOnce_raw (v : Value) (l : List (Int × ByteArray)) (h1 : l.length ≤ maxLen) (hx : ∀ x, x ∈ l → x.2.size ≤ maxLen) (hd : Int) (w : World) (h : PutsAt w v l) :
    Calls Try.prog 11 #[v, .int .i64 hd] w fun e w' => e = .returned (.bool true) ∧ Below w.heap.size w w' := by
  have H := Lib.hid h
  have HL := Lib.hid h1
  have HX := Lib.hid hx
  obtain ⟨i0, hi0, hz0, hz1, hz2⟩ := info_parts intInfoO
  have HI := Lib.hid hi0
  have HZ0 := Lib.hid hz0
  have HZ1 := Lib.hid hz1
  have HZ2 := Lib.hid hz2
  clear hi0 hz0 hz1 hz2
  obtain ⟨N, HN⟩ : ∃ N, Hid (N = l.length) := ⟨_, rfl⟩
  obtain ⟨p, cp, hv, _⟩ := puts_open h N HN.out
  subst hv
  clear h h1 hx
  go_enter Try.func11, Try.ntmps11
  go_wp2_with fail
  refine (lifted_true _).mono ?_
  rintro e w1 ⟨rfl, hb1⟩
  go_wp2_with fail
  refine (light_any _ l _ (RowAt.below H.out hb1) HL.out HX.out).mono ?_
  obtain ⟨lb, HLB⟩ : ∃ lb, Hid (lightB l = lb) := ⟨_, rfl⟩
  rw [HLB.out]
  rintro e w2 ⟨rfl, hb2⟩
  have hB2 := Below.step hb1 hb2
  clear hb1 hb2
  cases lb with
  | false =>
    go_wp2
    go_ret
    exact ⟨rfl, hB2⟩
  | true =>
    have hl60 := light_le1 HLB.out
    have HB2 := Lib.hid hB2
    have HCL := Lib.hid (putsClone_any _ l w2 (RowAt.below H.out hB2) (by omega))
    clear hB2
    go_wp2_with fail
    refine HCL.out.mono ?_
    rintro e w3 ⟨v3, rfl, ho3, hb3, _⟩
    have HB3 : Hid (Below w.heap.size w w3) := Below.step HB2.out hb3
    have HDE := Lib.hid (deleteP_any 44 once1_any_eg once1_any w2.heap.size v3 l w3 hb3.size (by omega) ho3)
    have hz3 := HB2.out.size
    unfold fnP at HDE
    clear ho3 hb3
    go_wp2_with fail
    refine HDE.out.mono ?_
    rintro e w4 ⟨v4, rfl, ho4, hb4, hz4⟩
    have HB4 : Hid (Below w.heap.size w w4) := HB3.out.trans (hb4.mono hz3)
    have HPU : Hid (PutsAt w4 v4 (noBar l)) := RowAt.of_owns ho4
    have hnb := noBar_len l
    have hz4' := HB4.out.size
    clear ho4 hb4
    obtain ⟨hh, HH⟩ : ∃ q, Hid (pkN hd 256 = q) := ⟨_, rfl⟩
    have hh256 : hh < 256 := by rw [← HH.out]; exact pkN_lt hd 256 (by omega) (by omega)
    obtain ⟨M, HM⟩ : ∃ M, Hid (M = (noBar l).length) := ⟨_, rfl⟩
    obtain ⟨p4, c4, hv4, hp4⟩ := puts_open HPU.out M HM.out
    have HP4 := Lib.hid hp4
    have hM60 : M ≤ 60 := by rw [HM.out]; omega
    subst hv4
    clear hp4
    go_wp2_with fail
    refine (asks_any _ (noBar l) _ HPU.out (by omega)).mono ?_
    rintro e w5 ⟨v5, rfl, ho5, hb5⟩
    have HPU5 : Hid (PutsAt w5 (.slice p4 M c4) (noBar l)) := RowAt.below HPU.out hb5
    obtain ⟨E, hE, h3, h4⟩ := ho5
    have hEl : E.length ≤ 60 := by rw [rqs_len hE, asks_le1]; omega
    have HOR := Lib.hid (order_any v5 E hh hh256 w5 (RqRow.of_owns h3) (fun x hx => (h4 x hx).ok) (by omega))
    unfold OrderRes at HOR
    have HEM : Hid (orderF (asksF (noBar l)) hh = emit (partF (wrP (noBar l)) hh)) := by
      show _ = _
      unfold orderF
      rw [asks_noBar, orderG_emit, List.nil_append]
    rw [hE, HEM.out] at HOR
    have hpl : (wrP (noBar l)).length ≤ 60 := by unfold wrP; rw [List.length_map]; omega
    have HB5 : Hid (Below w.heap.size w w5) := Below.step HB4.out hb5
    clear hE h3 h4 hb5
    go_wp2_with fail
    refine (pickN hd 256 _ (by omega) (by omega)).mono ?_
    rw [HH.out]
    rintro e w' ⟨rfl, rfl⟩
    go_wp2_with fail
    refine HOR.out.mono ?_
    rintro e w6 ⟨v6, rfl, ho6, hb6⟩
    obtain ⟨E6, hE6, h5, h6⟩ := ho6
    have h6' := fun x hx => (RqNew.ok (h6 x hx)).shape
    clear h6
    have hEl6 : E6.length ≤ 60 := by
      rw [rqs_len hE6, emit_len]
      exact Nat.le_trans (partF_len _ _ hh256) hpl
    obtain ⟨G, HG⟩ : ∃ G : List Int, Hid (E6.map (fun x => (x.n : Int)) = G) := ⟨_, rfl⟩
    have HGS : Hid (srtI G = srtI (wantF (noBar l))) := by
      show _ = _
      rw [← once_eq (noBar l) hh hh256, ← HG.out, ← hE6]
      unfold secsI
      rw [List.map_map]
      rfl
    obtain ⟨q6, cp6, rfl, hq6⟩ := owns_slice h5
    obtain ⟨L, HLL⟩ : ∃ L, Hid (E6.length = L) := ⟨_, rfl⟩
    rw [HLL.out] at hEl6 hq6
    rw [HLL.out]
    have HQ : Hid (0 < L → ∃ g, q6 = some ⟨g, 0, none⟩ ∧ g < w6.heap.size ∧ ∀ (j : Nat) (x : Value), (rcells E6)[j]? = some x → w6.cell? ⟨g, j, none⟩ = some x) := fun h0 => by
      obtain ⟨g, rfl, hg, hc⟩ := hq6 h0
      exact ⟨g, rfl, (h5.lt g rfl).2, hc⟩
    have HXS : Hid (∀ x ∈ E6, ∃ px lx cx, x.v = .slice px lx cx) := fun x hx => by
      obtain ⟨px, lx, cx, h, _⟩ := (h6' x hx)
      exact ⟨px, lx, cx, h⟩
    have HB6 : Hid (Below w.heap.size w w6) := Below.step HB5.out hb6
    have HPU6 : Hid (PutsAt w6 (.slice p4 M c4) (noBar l)) := RowAt.below HPU5.out hb6
    have HGL : Hid (G.length = L) := by show _ = _; rw [← HG.out, List.length_map]; exact HLL.out
    clear hE6 h5 h6' hq6 hb6
    go_wp2
    go_loopw [7, 32] (fun s i wr => ∃ k : Nat, k ≤ L ∧ i = .int .i64 k ∧ Hid (wr.ownsRow w6.heap.size 3 1 s k (ints (G.take k))) ∧ Below w6.heap.size w6 wr) (fun _ i _ => L - (intOf i).toNat)
    case atStart => exact ⟨0, Nat.zero_le _, rfl, World.ownsRow_nil _ _ _ _, Below.refl _ _⟩
    case round =>
      obtain ⟨k, hk, rfl, HO, HB⟩ := hrel
      by_cases hlt : k < L
      · obtain ⟨g, rfl, hg, hc⟩ := HQ.out (by omega)
        have hkl : k < E6.length := by rw [HLL.out]; exact hlt
        have hkg : k < G.length := by rw [HGL.out]; exact hlt
        obtain ⟨e0, e1, e2⟩ := rcells_get E6 k hkl
        obtain ⟨px, lx, cx, hxv⟩ := HXS.out _ (List.getElem_mem hkl)
        rw [hxv] at e1
        have c0 := (HB.cell (p := ⟨g, k * 3, none⟩) hg).trans (hc _ _ e0)
        have c1 := (HB.cell (p := ⟨g, k * 3 + 1, none⟩) hg).trans (hc _ _ e1)
        have c2 := (HB.cell (p := ⟨g, k * 3 + 2, none⟩) hg).trans (hc _ _ e2)
        obtain ⟨xn, Hxn⟩ : ∃ q, Hid (E6[k].n = q) := ⟨E6[k].n, rfl⟩
        obtain ⟨xb, Hxb⟩ : ∃ q, Hid (E6[k].b = q) := ⟨E6[k].b, rfl⟩
        rw [Hxn.out] at c0
        rw [Hxb.out] at c2
        have HT : Hid (ints (G.take (k + 1)) = ints (G.take k) ++ [.int .i64 (xn : Int)]) := by
          show _ = _
          have h1 : G[k] = (xn : Int) := by
            have h2 : (E6.map (fun x => (x.n : Int)))[k]? = G[k]? := by rw [HG.out]
            rw [List.getElem?_map, List.getElem?_eq_getElem hkl, List.getElem?_eq_getElem hkg] at h2
            injection h2 with h2
            rw [← h2]
            show ((E6[k].n : Nat) : Int) = (xn : Int)
            rw [Hxn.out]
          rw [← List.take_append_getElem hkg, ints_snoc, h1]
        have hlt2 : (k : Int) < (L : Int) := by omega
        have hgl : g < wr.heap.size := Nat.lt_of_lt_of_le hg HB.size
        have hgn : ¬ g = wr.heap.size := by omega
        have hsz := HB.size
        have HOA := Lib.hid (fun o => HO.out.alloc o)
        have hlt' := HO.out.lt
        have HLT := Lib.hid (fun q hq => (hlt' q hq).1)
        have hbk : Below w6.heap.size w6 (wr.alloc (.cells #[.int .i64 (xn : Int), .slice px lx cx, .bool xb] 50)) := HB.alloc hsz _
        have HBK := Lib.hid hbk
        have HNB : Hid (((wr.alloc (.cells #[.int .i64 (xn : Int), .slice px lx cx, .bool xb] 50)).alloc (.cells #[.int .i64 (xn : Int)] 3)).heap[wr.heap.size + 1]? = some (.cells #[.int .i64 (xn : Int)] 3 (0, 0))) := by
          have := heap_alloc_new (wr.alloc (.cells #[.int .i64 (xn : Int), .slice px lx cx, .bool xb] 50)) (.cells #[.int .i64 (xn : Int)] 3)
          rw [show (wr.alloc (.cells #[.int .i64 (xn : Int), .slice px lx cx, .bool xb] 50)).heap.size = wr.heap.size + 1 by simp] at this
          exact this
        clear hc e0 e1 e2 hxv hlt' hbk
        go_wp2_with (at_builtin; refine wpList_append_own _ rfl _ _ 38 rfl w6.heap.size 3 i0 (.int .i64 0) 1 8 intsTO HI.out HZ0.out HZ1.out HZ2.out rfl (by decide) _ _ _ rfl ((HOA.out _).alloc _) ⟨_, 0, none⟩ 1 1 [.int .i64 (xn : Int)] rfl rfl (World.news_of_block (cs := #[.int .i64 (xn : Int)]) (t := 3) (fr := (0, 0)) HNB.out) (by simp [Value.oneCell']) (by unfold maxLen; omega) (by omega) (by simp; omega) ?_; intro v' w1 hown hgrow _)
        have HO1 : Hid (w1.ownsRow w6.heap.size 3 1 v' (k + 1) (ints (G.take (k + 1)))) := by
          show World.ownsRow _ _ _ _ _ _ _
          rw [HT.out]
          exact hown
        have HB1 : Below w6.heap.size w6 w1 := Below.grown (HBK.out.alloc HBK.out.size _) hgrow (by simp; omega) HLT.out
        clear hown hgrow c0 c1 c2
        go_wp2
        go_roundw
        case rel => exact ⟨k + 1, by omega, by go_num, HO1, HB1⟩
        case measure => simp [intOf]; omega
      · have hkn : k = L := by omega
        subst hkn
        have HF : Hid (wr.ownsRow w6.heap.size 3 1 u7 G.length (ints G)) := by
          have := HO.out
          rw [List.take_of_length_le (by rw [HGL.out]; omega), ← HGL.out] at this
          exact this
        have HPR : Hid (0 < M → ∃ g o, p4 = some ⟨g, o, none⟩ ∧ g < wr.heap.size ∧ ∀ k (hk : k < (noBar l).length), wr.cell? ⟨g, o + k * 2, none⟩ = some (.int .i64 (noBar l)[k].1) ∧ wr.cell? ⟨g, o + k * 2 + 1, none⟩ = some (.string (noBar l)[k].2)) := fun h0 => by
          obtain ⟨p', cp', hv', hp'⟩ := puts_open (RowAt.below HPU6.out HB) M HM.out
          cases hv'
          exact hp' h0
        have HBW : Hid (Below w.heap.size w wr) := HB6.out.trans (HB.mono HB6.out.size)
        have hz6 := HB.size
        obtain ⟨wA, rfl⟩ : ∃ wA, wA = wr := ⟨_, rfl⟩
        have hw0 := wantF_take (noBar l) (noBar l).length (Nat.le_refl _)
        have HW60 : Hid (∀ j, j ≤ M → (wantF ((noBar l).take j)).length ≤ j) := fun j hj => (wantF_take (noBar l) j (by rw [← HM.out]; exact hj)).2.1
        clear HO HB HPU6 HPU5 HPU hw0 HP4
        go_wp2
        go_loopw [8, 44] (fun s i wr => ∃ k : Nat, k ≤ M ∧ i = .int .i64 k ∧ Hid (wr.ownsRow wA.heap.size 3 1 s (wantF ((noBar l).take k)).length (ints (wantF ((noBar l).take k)))) ∧ Below wA.heap.size wA wr) (fun _ i _ => M - (intOf i).toNat)
        case atStart => exact ⟨0, Nat.zero_le _, rfl, World.ownsRow_nil _ _ _ _, Below.refl _ _⟩
        case round =>
          obtain ⟨k, hk, rfl, HO, HB⟩ := hrel
          by_cases hlt : k < M
          · obtain ⟨g, o, rfl, hg, hc⟩ := HPR.out (by omega)
            have hkl : k < (noBar l).length := by rw [← HM.out]; exact hlt
            have hck := hc k hkl
            obtain ⟨x, Hx⟩ : ∃ x, Hid ((noBar l)[k].1 = x) := ⟨(noBar l)[k].1, rfl⟩
            obtain ⟨s, Hs⟩ : ∃ s, Hid ((noBar l)[k].2 = s) := ⟨(noBar l)[k].2, rfl⟩
            rw [Hx.out, Hs.out] at hck
            have c1 := (HB.cell (p := ⟨g, o + k * 2, none⟩) hg).trans hck.1
            have c2 := (HB.cell (p := ⟨g, o + (k * 2 + 1), none⟩) hg).trans hck.2
            rw [← Nat.add_assoc] at c2
            have hlt2 : (k : Int) < (M : Int) := by omega
            have hgl : g < wr.heap.size := Nat.lt_of_lt_of_le hg HB.size
            have hgn : ¬ g = wr.heap.size := by omega
            obtain ⟨q, HQN⟩ : ∃ q, Hid (pkN x 17 = q) := ⟨_, rfl⟩
            have hq17 : q < 17 := by rw [← HQN.out]; exact pkN_lt x 17 (by omega) (by omega)
            have HPK : Hid (∀ W : World, Calls Try.prog 14 #[.int .i64 x, .int .i64 17] W fun e w' => e = .returned (.int .i64 (q : Int)) ∧ W = w') := fun W => by
              have := pickN x 17 W (by omega) (by omega)
              rw [HQN.out] at this
              exact this
            have HT : Hid (wantF ((noBar l).take (k + 1)) = if (wantF ((noBar l).take k)).contains (q : Int) then wantF ((noBar l).take k) else wantF ((noBar l).take k) ++ [(q : Int)]) := by
              show _ = _
              rw [← List.take_append_getElem hkl, wantF_snoc, Hx.out, HQN.out]
            have hw60 := HW60.out k hk
            have hbk : Below wA.heap.size wA (wr.alloc (.cells #[.int .i64 x, .string s] 55)) := HB.alloc HB.size _
            have HBK := Lib.hid hbk
            have HOA := Lib.hid (fun o => HO.out.alloc o)
            have hlt' := HO.out.lt
            have HLT := Lib.hid (fun q hq => (hlt' q hq).1)
            have hsz := HB.size
            have HNB : Hid (((wr.alloc (.cells #[.int .i64 x, .string s] 55)).alloc (.cells #[.int .i64 (q : Int)] 3)).heap[wr.heap.size + 1]? = some (.cells #[.int .i64 (q : Int)] 3 (0, 0))) := by
              have := heap_alloc_new (wr.alloc (.cells #[.int .i64 x, .string s] 55)) (.cells #[.int .i64 (q : Int)] 3)
              rw [show (wr.alloc (.cells #[.int .i64 x, .string s] 55)).heap.size = wr.heap.size + 1 by simp] at this
              exact this
            have HCT := Lib.hid (containsInts_any u8 (wantF ((noBar l).take k)) (q : Int) _ (ints_own_at (HOA.out (.cells #[.int .i64 x, .string s] 55))) (by omega))
            obtain ⟨cb, HCB⟩ : ∃ cb, Hid ((wantF ((noBar l).take k)).contains (q : Int) = cb) := ⟨_, rfl⟩
            rw [HCB.out] at HCT
            have HT2 : Hid (wantF ((noBar l).take (k + 1)) = if cb = true then wantF ((noBar l).take k) else wantF ((noBar l).take k) ++ [(q : Int)]) := by
              show _ = _
              rw [HT.out, HCB.out]
            clear hc hck hlt' hbk HT
            go_wp2_with fail
            refine (HPK.out _).mono ?_
            rintro e w' ⟨rfl, rfl⟩
            go_wp2_with fail
            refine HCT.out.mono ?_
            rintro e w' ⟨rfl, rfl⟩
            cases cb with
            | true =>
              have HO1 : Hid ((wr.alloc (.cells #[.int .i64 x, .string s] 55)).ownsRow wA.heap.size 3 1 u8 (wantF ((noBar l).take (k + 1))).length (ints (wantF ((noBar l).take (k + 1))))) := by
                show World.ownsRow _ _ _ _ _ _ _
                rw [HT2.out, if_pos rfl]
                exact HOA.out _
              go_wp2
              go_roundw
              case rel => exact ⟨k + 1, by omega, by go_num, HO1, HBK.out⟩
              case measure => simp [intOf]; omega
            | false =>
              go_wp2_with (at_builtin; refine wpList_append_own _ rfl _ _ 38 rfl wA.heap.size 3 i0 (.int .i64 0) 1 8 intsTO HI.out HZ0.out HZ1.out HZ2.out rfl (by decide) _ _ _ rfl ((HOA.out _).alloc _) ⟨_, 0, none⟩ 1 1 [.int .i64 (q : Int)] rfl rfl (World.news_of_block (cs := #[.int .i64 (q : Int)]) (t := 3) (fr := (0, 0)) HNB.out) (by simp [Value.oneCell']) (by unfold maxLen; omega) (by omega) (by simp; omega) ?_; intro v' w1 hown hgrow _)
              have HO1 : Hid (w1.ownsRow wA.heap.size 3 1 v' (wantF ((noBar l).take (k + 1))).length (ints (wantF ((noBar l).take (k + 1))))) := by
                show World.ownsRow _ _ _ _ _ _ _
                rw [HT2.out, if_neg (by simp), List.length_append, ints_snoc]
                exact hown
              have HB1 : Below wA.heap.size wA w1 := Below.grown (HBK.out.alloc HBK.out.size _) hgrow (by simp; omega) HLT.out
              clear hown hgrow c1 c2
              go_wp2
              go_roundw
              case rel => exact ⟨k + 1, by omega, by go_num, HO1, HB1⟩
              case measure => simp [intOf]; omega
          · have hkM : k = M := by omega
            have hwl := HW60.out k hk
            have HWO : Hid (wr.ownsRow wA.heap.size 3 1 u8 (wantF (noBar l)).length (ints (wantF (noBar l)))) := by
              have := HO.out
              rw [List.take_of_length_le (by rw [← HM.out]; omega)] at this
              exact this
            rw [List.take_of_length_le (by rw [← HM.out]; omega)] at hwl
            have HGO := Lib.hid (sort_own u7 G w6.heap.size wr (owns_keep HF.out fun q hq => HB.block q (HF.out.lt q hq).2) (by rw [HGL.out]; omega))
            have hltg := HF.out.lt
            have hbw : Below w.heap.size w wr := HBW.out.trans (HB.mono HBW.out.size)
            have HBWR := Lib.hid hbw
            have hzr := HB.size
            clear hbw HO
            go_wp2_with fail
            refine HGO.out.mono ?_
            rintro e w9 ⟨rfl, ho9, hg9⟩
            have hB9 : Below w.heap.size w w9 := Below.grown HBWR.out hg9 HBWR.out.size (fun q hq => Nat.le_trans HB6.out.size (hltg q hq).1)
            have hltw := HWO.out.lt
            have HWO9 : Hid (w9.ownsRow wA.heap.size 3 1 u8 (wantF (noBar l)).length (ints (wantF (noBar l)))) := owns_keep HWO.out fun b hb => hg9.block b (hltw b hb).2 (fun e => by
              have h1 := (hltg b e.symm).2
              have h2 := (hltw b hb).1
              omega)
            have HWS := Lib.hid (sort_own u8 (wantF (noBar l)) wA.heap.size w9 HWO9.out (by omega))
            have HO9 := Lib.hid ho9
            have HB9 := Lib.hid hB9
            have hltw9 := HWO9.out.lt
            have hltg9 := ho9.lt
            clear ho9 hg9 hB9
            go_wp2_with fail
            refine HWS.out.mono ?_
            rintro e w10 ⟨rfl, ho10, hg10⟩
            have HB10 : Hid (Below w.heap.size w w10) := Below.grown HB9.out hg10 HB9.out.size (fun q hq => Nat.le_trans HBW.out.size (hltw9 q hq).1)
            have HG10 : Hid (w10.ownsRow w6.heap.size 3 1 u7 G.length (ints (srtI G))) := owns_keep HO9.out fun b hb => hg10.block b (hltg9 b hb).2 (fun e => by
              have h1 := (hltg b hb).2
              have h2 := (hltw9 b e.symm).1
              omega)
            have HLG : Hid ((srtI G).length = G.length) := (srtI_perm G).length_eq
            have HLW : Hid ((srtI (wantF (noBar l))).length = (wantF (noBar l)).length) := (srtI_perm _).length_eq
            have HEQ := Lib.hid (equalInts_any u7 u8 (srtI G) (srtI (wantF (noBar l))) w10 (ints_own_at (by rw [HLG.out]; exact HG10.out)) (ints_own_at (by rw [HLW.out]; exact ho10)) (by rw [HLG.out, HGL.out]; omega) (by rw [HLW.out]; omega))
            have HEB : Hid (eqL (srtI G) (srtI (wantF (noBar l))) = true) := by
              show _ = _
              rw [HGS.out]
              unfold eqL
              simp
            rw [HEB.out] at HEQ
            clear ho10 hg10 hltw hltw9 hltg9 hltg
            go_wp2_with fail
            refine HEQ.out.mono ?_
            rintro e w11 ⟨rfl, hb11⟩
            have hB11 : Below w.heap.size w w11 := Below.step HB10.out hb11
            clear hb11
            go_wp2
            go_ret
            exact ⟨rfl, hB11⟩

-- CLOSING

set_option maxRecDepth 100000 in
theorem liftOnce_lifted (os : Os) (started : os.Started) (H : Type) (enc' : TypeId × Value → H) :
    ReturnsInHanded {} Try.checked os 11 .any (Rows.liftOnceSpec.pre6 enc' Try.prog Try.f11 Rows.liftOnceRow.domain false) (Rows.liftOnceSpec.post enc' Try.prog Try.f11 false true false false) := by
  refine returnsInHanded_of_change (C := Try.checked) Try.own started (by kernel_rfl) Try.func11
    (ChangeSpec.witness6 (enc := enc') (C := Try.checked) false ⟨#[], #[(.slice none 0 0), (.int .i64 0)], []⟩ 8 (by kernel_rfl) (by kernel_rfl) (by kernel_rfl) (by kernel_rfl)) ?_
  intro W base args ds gs before hval0 hW hcnd _
  have hval : ∀ (j : Nat) t v, Try.f11.params[j]? = some t → args[j]? = some v → Value.okWide Try.prog W .any base t v := hval0
  have hW' := hW
  obtain ⟨p, q, hA0, hV, rfl, hfz, hnd⟩ := hW
  have hA : DataW.TrodAll enc' Try.prog W 0 (fun _ => true) true Try.f11.params.toList args.toList ds p := hA0
  rw [Try.params11] at hA hval
  obtain ⟨v0, v1, d0, d1, p0, p1, rfl, rfl, rfl, h0, h1⟩ := trodAll_two hA
  obtain ⟨rfl, rfl⟩ := trodVars_none hV
  obtain ⟨l0, hI0, hM0, hx0⟩ := open_putsAt (P := Try.prog) Try.underlying42 Try.underlying55 (by kernel_rfl) rfl rfl (by kernel_rfl) (by kernel_rfl) (by kernel_rfl) (by kernel_rfl) (hval 0 42 v0 rfl rfl) h0
  obtain ⟨hd, rfl, rfl, rfl, whd⟩ := open_int Try.underlying3 (hval 1 3 v1 rfl rfl) h1
  clear hA0 hval0
  refine (liftOnce_raw _ l0 hM0 hx0 hd W hI0).mono fun e W' ⟨he, hw⟩ => ?_
  subst he
  exact ⟨_, rfl, law_post 4 Try.laidOut (by kernel_rfl) rfl rfl Try.underlying4 hW' rfl hw⟩

theorem liftOnce_holds : Rows.LiftOnceSaid :=
  OpenClaim.holds_of_wide 11 Try.f11 rfl rfl rfl rfl rfl rfl rfl ⟨rfl, rfl, rfl, rfl, rfl⟩ rfl rfl rfl rfl rfl (by kernel_rfl) Try.func11 (by kernel_rfl)
    (of_decide_eq_true (by kernel_rfl)) (by unfold Func.isWrapper; first | (rw [if_pos (by decide +kernel)]; kernel_rfl) | (rw [if_neg (by decide +kernel)]; exact ⟨rfl, rfl⟩))
    (fun os started H enc _ => liftOnce_lifted os started H enc)

end Go.Proofs.Ythkcnihmfeilgaa
