/- writes: what is to be written, made out of puts. -/
import Derived.Test.YtdcplaonafmbjaaJScan
import Derived.Test.YtdcplaonafmbjaaDkWritten
import Derived.Deep.RegionHeldLaw
import Derived.StillTailTactics
import Derived.Deep.AppendLies
namespace Go.Proofs.Ytdcplaonafmbjaa
open Go.RowKit

/-- A put as a write of a sector from 10 on; the first four of them, each sector once. -/
def wrOne (x : Int × ByteArray) : Wr := (10 + pkN x.1 10, secS x.2)
def wrStep (o : List Wr) (x : Int × ByteArray) : List Wr := if o.length < 4 ∧ (o.any fun y => y.1 == 10 + pkN x.1 10) = false then o ++ [wrOne x] else o
def wrsF (l : List (Int × ByteArray)) : List Wr := l.foldl wrStep []
theorem wrsF_snoc (l : List (Int × ByteArray)) (x : Int × ByteArray) : wrsF (l ++ [x]) = wrStep (wrsF l) x := by unfold wrsF; rw [List.foldl_append]; rfl
theorem wrsF_len (l : List (Int × ByteArray)) : (wrsF l).length ≤ 4 := by
  have key : ∀ k, k ≤ l.length → (wrsF (l.take k)).length ≤ 4 := by
    intro k
    induction k with
    | zero => intro _; simp [wrsF]
    | succ k ih =>
      intro hk
      rw [← List.take_append_getElem (show k < l.length by omega), wrsF_snoc]
      unfold wrStep
      split
      · rename_i h; rw [List.length_append]; simp; omega
      · exact ih (by omega)
  have := key l.length (Nat.le_refl _)
  rwa [List.take_length] at this

theorem JwsTwo.drew {w : World} {b B : Nat} {v : Value} {E : List Jw} (h : JwsTwo w b B v E) : JwsTwo w.drew b B v E := h
/-- A write more. -/
theorem JwsTwo.snoc {w w' : World} {b B n g2 cap2 g cap : Nat} {v : Value} {E : List Jw} {D : List Int} {cur cs : Array Value} (h : JwsTwo w b B v E) (hn : n < 256) (hD : D.length = 64) (hg : B ≤ g2 ∧ 64 ≤ cap2) (hh : w.heap[g2]? = some (.cells cur 5 (0, 0))) (ht : cur.toList.take 64 = u8s D)
    (hown : w'.ownsRow b 44 2 (.slice (some ⟨g, 0, none⟩) (E.length + 1) cap) (E.length + 1) (jcells E ++ [.int .i64 (n : Int), .slice (some ⟨g2, 0, none⟩) 64 cap2])) (hgrow : (w.alloc (.cells cs 44)).grownBy w' v.ownBlock) :
    JwsTwo w' b B (.slice (some ⟨g, 0, none⟩) (E.length + 1) cap) (E ++ [⟨n, .slice (some ⟨g2, 0, none⟩) 64 cap2, D⟩]) := by
  have hkeep : ∀ (i : Nat) (c : Array Value), w.heap[i]? = some (.cells c 5 (0, 0)) → w'.heap[i]? = w.heap[i]? := fun i c hi => by
    have h0 := heap_alloc_keep hi (.cells cs 44)
    exact (hgrow.block i (heap_lt h0) (fun e => own_ne h.1 hi (by decide) e.symm)).trans (h0.trans hi.symm)
  refine ⟨by rw [List.length_append, jcells_append]; exact hown, fun x hx => ?_⟩
  rcases List.mem_append.1 hx with hx | hx
  · exact (h.2 x hx).keep fun i c _ hi => hkeep i c hi
  · rw [List.mem_singleton] at hx
    subst hx
    exact ⟨hn, hD, g2, cap2, cur, rfl, hg, (hkeep g2 cur hh).trans hh, ht⟩
theorem cell_grown {w w' : World} {o : Obj} {r : Option Nat} (h : (w.alloc o).grownBy w' r) {g i : Nat} (hg : g < w.heap.size) (hr : some g ≠ r) : w'.cell? ⟨g, i, none⟩ = w.cell? ⟨g, i, none⟩ :=
  World.cell?_of_block ((h.block g (by simp; omega) hr).trans (Below.heap_alloc _ _ g hg))
def fnW (gm : Nat) : Value := .func (.func 41) #[] #[.pointer (some ⟨gm, 0, none⟩)]
set_option maxRecDepth 100000 in
set_option maxHeartbeats 1000000 in
theorem writes1_any (n m : Nat) (v : Value) (hv : v.oneCell' = true) (gm : Nat) (w : World) (hc : w.cell? ⟨gm, 0, none⟩ = some (.int .i64 (m : Int))) :
    Calls Try.prog 41 #[.agg #[.int .i64 (n : Int), v], .pointer (some ⟨gm, 0, none⟩)] w fun e w' => e = .returned (.bool (n == m)) ∧ Below w.heap.size w w' := by
  have _ := hv
  have hlt : gm < w.heap.size := block_lt_of_cell hc
  have hE : Hid (decide ((n : Int) = (m : Int)) = (n == m)) := by
    show _ = _
    by_cases h : n = m
    · subst h; simp
    · rw [decide_eq_false (by omega)]; simpa using h
  go_enter Try.func41, Try.ntmps41
  go_wp2
  go_ret
  refine ⟨?_, (Below.refl _ _).alloc (Nat.le_refl _) _⟩
  first | rfl | (rw [← hE.out]; rfl) | simp

def IdxW (E : List Jw) (m : Nat) (w : World) (e : Ending) (w' : World) : Prop := ∃ r : Int, e = .returned (.int .i64 r) ∧ (0 ≤ r ↔ (E.map jab).any (fun y => y.1 == m) = true) ∧ Below w.heap.size w w'
set_option maxRecDepth 100000 in
set_option maxHeartbeats 1000000 in
theorem idxW_any (v : Value) (E : List Jw) (m : Nat) (gm : Nat) (w : World) (h : RowAt w v 2 E.length (jcells E)) (h1 : ∀ x ∈ E, x.v.oneCell' = true) (hl : E.length ≤ 1000000) (hcm : w.cell? ⟨gm, 0, none⟩ = some (.int .i64 (m : Int))) :
    Calls Try.prog 60 #[v, fnW gm] w (IdxW E m w) := by
  obtain ⟨p, cp, rfl, HP⟩ := jws_open h
  obtain ⟨N, HN⟩ : ∃ n, Hid (E.length = n) := ⟨_, rfl⟩
  rw [HN.out] at hl HP
  rw [HN.out]
  have H1 := Lib.hid h1
  have HCM : Hid (∀ (x : Jw) (W : World), x.v.oneCell' = true → Below w.heap.size w W → Calls Try.prog 41 #[.agg #[.int .i64 (x.n : Int), x.v], .pointer (some ⟨gm, 0, none⟩)] W fun e w' => e = .returned (.bool (x.n == m)) ∧ Below W.heap.size W w') := fun x W hx hW =>
    writes1_any x.n m x.v hx gm W ((hW.cell (p := ⟨gm, 0, none⟩) (block_lt_of_cell hcm)).trans hcm)
  clear h hcm h1
  unfold fnW
  go_enter Try.func60, Try.ntmps60
  go_wp2
  go_loopw [8] (fun i wr => ∃ k : Nat, k ≤ N ∧ i = .int .i64 k ∧ Hid (((E.take k).map jab).any (fun y => y.1 == m) = false) ∧ Below w.heap.size w wr) (fun i _ => N - (intOf i).toNat)
  case atStart => exact ⟨0, by omega, rfl, rfl, Below.refl _ _⟩
  case round =>
    obtain ⟨k, hk, rfl, HO, HB⟩ := hrel
    by_cases hlt : k < N
    · obtain ⟨g, o, rfl, hg, hc⟩ := HP.out (by omega)
      have hkl : k < E.length := by rw [HN.out]; exact hlt
      obtain ⟨e0, e1⟩ := jcells_get E k hkl
      have c0 := (HB.cell (p := ⟨g, o + k * 2, none⟩) hg).trans (hc _ _ e0)
      have c1 := (HB.cell (p := ⟨g, o + (k * 2 + 1), none⟩) hg).trans (hc _ _ e1)
      rw [← Nat.add_assoc] at c1
      have HX := HCM.out E[k] _ (H1.out _ (List.getElem_mem hkl)) HB
      have hlt2 : (k : Int) < (N : Int) := by omega
      obtain ⟨xn, Hxn⟩ : ∃ q, Hid (E[k].n = q) := ⟨E[k].n, rfl⟩
      obtain ⟨xv, Hxv⟩ : ∃ q, Hid (E[k].v = q) := ⟨E[k].v, rfl⟩
      rw [Hxn.out] at c0 HX
      rw [Hxv.out] at c1 HX
      have HXH := Lib.hid HX
      have HT : Hid (((E.take (k + 1)).map jab).any (fun y => y.1 == m) = (xn == m)) := by
        show _ = _
        rw [← List.take_append_getElem hkl, List.map_append, List.any_append, HO.out, ← Hxn.out]
        show (false || (((E[k].n == m) || false))) = _
        simp
      have HA : Hid ((xn == m) = true → (E.map jab).any (fun y => y.1 == m) = true) := fun hb => by
        rw [List.any_eq_true]
        exact ⟨jab E[k], List.mem_map.2 ⟨_, List.getElem_mem hkl, rfl⟩, by rw [← Hxn.out] at hb; exact hb⟩
      clear hc e0 e1 HX
      go_wp2_with fail
      refine HXH.out.mono ?_
      generalize hbg : (xn == m) = bg at HT HA
      clear hbg
      rintro e w1 ⟨rfl, hb1⟩
      have hB1 := Below.step HB hb1
      clear hb1
      cases bg with
      | true =>
        go_wp2
        go_ret
        exact ⟨k, rfl, ⟨fun _ => HA.out trivial, fun _ => by omega⟩, hB1⟩
      | false =>
        go_wp2
        go_roundw
        case rel => exact ⟨k + 1, by omega, by go_num, HT, hB1⟩
        case measure => simp [intOf]; omega
    · have HF : Hid ((E.map jab).any (fun y => y.1 == m) = false) := by
        have := HO.out
        rw [List.take_of_length_le (by rw [HN.out]; omega)] at this
        exact this
      go_wp2
      go_ret
      exact ⟨-1, rfl, ⟨fun h => by omega, fun h => by rw [HF.out] at h; cases h⟩, HB⟩

set_option maxRecDepth 100000 in
set_option maxHeartbeats 1000000 in
theorem inW_any (v : Value) (E : List Jw) (m : Nat) (gm : Nat) (w : World) (h : RowAt w v 2 E.length (jcells E)) (h1 : ∀ x ∈ E, x.v.oneCell' = true) (hl : E.length ≤ 1000000) (hcm : w.cell? ⟨gm, 0, none⟩ = some (.int .i64 (m : Int))) :
    Calls Try.prog 40 #[v, fnW gm] w fun e w' => e = .returned (.bool ((E.map jab).any fun y => y.1 == m)) ∧ Below w.heap.size w w' := by
  have HI := Lib.hid (idxW_any v E m gm w h h1 hl hcm)
  clear h hcm h1
  go_enter Try.func40, Try.ntmps40
  go_wp2_with fail
  refine HI.out.mono ?_
  rintro e w1 ⟨r, rfl, hr, hb⟩
  have HR := Lib.hid hr
  clear hr
  go_wp2
  go_ret
  refine ⟨?_, hb⟩
  have : ((E.map jab).any fun y => y.1 == m) = decide (0 ≤ r) := by
    rw [Bool.eq_iff_iff]; simp [HR.out]
  rw [this]; rfl

def WrsRes (l : List (Int × ByteArray)) (w : World) (e : Ending) (w' : World) : Prop := ∃ v E, e = .returned v ∧ JwsTwo w' w.heap.size w.heap.size v E ∧ E.map jab = wrsF l ∧ Below w.heap.size w w'
set_option maxRecDepth 100000 in
set_option maxHeartbeats 8000000 in
theorem writes_any (v : Value) (l : List (Int × ByteArray)) (w : World) (h : PutsAt w v l) (hl : l.length ≤ 1000) :
    Calls Try.prog 13 #[v] w (WrsRes l w) := by
  obtain ⟨N, HN⟩ : ∃ N, Hid (N = l.length) := ⟨_, rfl⟩
  obtain ⟨p, cp, hv, hp⟩ := puts_open h N HN.out
  subst hv
  have HP := Lib.hid hp
  rw [← HN.out] at hl
  clear h hp
  obtain ⟨i0, hi0, hz0, hz1, hz2⟩ := info_parts jwInfo
  have HI0 := Lib.hid hi0
  have HIZ := Lib.hid hz0
  have HI1 := Lib.hid hz1
  have HI2 := Lib.hid hz2
  clear hi0 hz0 hz1 hz2
  go_enter Try.func13, Try.ntmps13
  go_wp2
  go_loopw [3, 9] (fun o i wr => ∃ (k : Nat) (E : List Jw), k ≤ N ∧ i = .int .i64 k ∧ Hid (JwsTwo wr w.heap.size w.heap.size o E) ∧ Hid (E.map jab = wrsF (l.take k)) ∧ Below w.heap.size w wr) (fun _ i _ => N - (intOf i).toNat)
  case atStart => exact ⟨0, [], Nat.zero_le _, rfl, ⟨World.ownsRow_nil _ _ _ _, fun x hx => by simp at hx⟩, rfl, Below.refl _ _⟩
  case round =>
    obtain ⟨k, E, hk, rfl, HJ, HEK, HB⟩ := hrel
    by_cases hlt : k < N
    · obtain ⟨g, o, rfl, hg, hc⟩ := HP.out (by omega)
      have hkl : k < l.length := by rw [← HN.out]; exact hlt
      have hck := hc k hkl
      obtain ⟨x, Hx⟩ : ∃ x, Hid (l[k].1 = x) := ⟨l[k].1, rfl⟩
      obtain ⟨s, Hs⟩ : ∃ s, Hid (l[k].2 = s) := ⟨l[k].2, rfl⟩
      rw [Hx.out, Hs.out] at hck
      have c1 := (HB.cell (p := ⟨g, o + k * 2, none⟩) hg).trans hck.1
      have c2 := (HB.cell (p := ⟨g, o + (k * 2 + 1), none⟩) hg).trans hck.2
      rw [← Nat.add_assoc] at c2
      have hlt2 : (k : Int) < (N : Int) := by omega
      have hgl : g < wr.heap.size := Nat.lt_of_lt_of_le hg HB.size
      have hgn : ¬ g = wr.heap.size := by omega
      obtain ⟨q, HQ⟩ : ∃ q, Hid (pkN x 10 = q) := ⟨_, rfl⟩
      have hq10 : q < 10 := by rw [← HQ.out]; exact pkN_lt x 10 (by omega) (by omega)
      have HPK : Hid (∀ W : World, Calls Try.prog 23 #[.int .i64 x, .int .i64 10] W fun e w' => e = .returned (.int .i64 (q : Int)) ∧ W = w') := fun W => by
        have := pickN x 10 W (by omega) (by omega)
        rw [HQ.out] at this
        exact this
      have HT : Hid (wrsF (l.take (k + 1)) = if (E.map jab).length < 4 ∧ ((E.map jab).any fun y => y.1 == 10 + q) = false then E.map jab ++ [(10 + q, secS s)] else E.map jab) := by
        show _ = _
        rw [← List.take_append_getElem hkl, wrsF_snoc, ← HEK.out]
        unfold wrStep wrOne
        rw [Hx.out, Hs.out, HQ.out]
      have hE4 : E.length ≤ 4 := by
        have := congrArg List.length HEK.out
        rw [List.length_map] at this
        have := wrsF_len (l.take k)
        omega
      obtain ⟨p0, cp0, rfl, _⟩ := jws_open (RowAt.of_owns HJ.out.1)
      obtain ⟨M, HM⟩ : ∃ M, Hid (E.length = M) := ⟨_, rfl⟩
      rw [HM.out] at HJ hE4
      rw [List.length_map, HM.out] at HT
      rw [HM.out]
      clear hc hck
      have HQ0 : Hid (∀ b, (Value.slice p0 M cp0).ownBlock = some b → b < wr.heap.size) := fun b hb => (HJ.out.1.lt b hb).2
      generalize hwA : wr.alloc (.cells #[.int .i64 x, .string s] 67) = wA at *
      have HBA : Hid (Below w.heap.size w wA) := by rw [← hwA]; exact HB.alloc HB.size _
      have HJA : Hid (JwsTwo wA w.heap.size w.heap.size (.slice p0 M cp0) E) := by rw [← hwA]; exact HJ.out.below ((Below.refl _ _).alloc (Nat.le_refl _) _)
      have a0 : wA.cell? ⟨wr.heap.size, 0, none⟩ = some (.int .i64 x) := by rw [← hwA]; exact cell_of_row _ _ _ _ _ _ (heap_alloc_new wr _)
      have a1 : wA.cell? ⟨wr.heap.size, 1, none⟩ = some (.string s) := by rw [← hwA]; exact cell_of_row _ _ _ _ _ _ (heap_alloc_new wr _)
      have hzA : wr.heap.size < wA.heap.size := by rw [← hwA]; simp
      have HWA := Lib.hid hwA
      clear hwA
      by_cases hM4 : M < 4
      · have hM4i : (M : Int) < 4 := by omega
        obtain ⟨m, Hm⟩ : ∃ m, Hid (10 + q = m) := ⟨_, rfl⟩
        have hw10 : IntKind.i64.wrap (10 + (q : Int)) = (m : Int) := by rw [IntWalk.i64_in _ (by omega), ← Hm.out]; omega
        have hm256 : m < 256 := by rw [← Hm.out]; omega
        rw [Hm.out] at HT
        go_wp2_with fail
        rw [HWA.out]
        refine (HPK.out _).mono ?_
        rintro e w' ⟨rfl, rfl⟩
        have hin := inW_any (.slice p0 M cp0) E m wA.heap.size (wA.alloc (.cells #[.int .i64 (m : Int)] 3)) (RowAt.of_owns (HJA.out.below ((Below.refl _ _).alloc (Nat.le_refl _) (.cells #[.int .i64 (m : Int)] 3))).1) (fun x hx => (HJA.out.2 x hx).one) (by rw [HM.out]; omega) (cell_of_row _ _ _ _ _ _ (heap_alloc_new wA _))
        have HIN := Lib.hid hin
        clear hin
        unfold fnW at HIN
        have HBB : Hid (Below w.heap.size w (wA.alloc (.cells #[.int .i64 (m : Int)] 3))) := HBA.out.alloc HBA.out.size _
        go_wp2_with fail
        refine HIN.out.mono ?_
        cases hct : ((E.map jab).any fun y => y.1 == m) with
        | true =>
          have HT2 : Hid (E.map jab = wrsF (l.take (k + 1))) := by show _ = _; rw [HT.out, if_neg (fun h => by rw [hct] at h; exact absurd h.2 (by decide))]
          clear hct
          rintro e w1 ⟨rfl, hb1⟩
          have HB1 : Hid (Below w.heap.size w w1) := Below.step HBB.out hb1
          have HJ1 : Hid (JwsTwo w1 w.heap.size w.heap.size (.slice p0 M cp0) E) := (HJA.out.below ((Below.refl _ _).alloc (Nat.le_refl _) _)).below hb1
          clear hb1
          go_wp2
          go_roundw
          case rel => exact ⟨k + 1, E, by omega, by go_num, HJ1, HT2, HB1.out⟩
          case measure => simp [intOf]; omega
        | false =>
          have HT2 : Hid (wrsF (l.take (k + 1)) = E.map jab ++ [(m, secS s)]) := by show _ = _; rw [HT.out, if_pos ⟨hM4, hct⟩]
          clear hct
          rintro e w1 ⟨rfl, hb1⟩
          have HB1 : Hid (Below w.heap.size w w1) := Below.step HBB.out hb1
          have HJ1 : Hid (JwsTwo w1 w.heap.size w.heap.size (.slice p0 M cp0) E) := (HJA.out.below ((Below.refl _ _).alloc (Nat.le_refl _) _)).below hb1
          have q0 : w1.cell? ⟨wA.heap.size, 0, none⟩ = some (.int .i64 (m : Int)) := (hb1.cell (p := ⟨wA.heap.size, 0, none⟩) (by simp)).trans (cell_of_row _ _ _ _ _ _ (heap_alloc_new wA _))
          have q1 : w1.cell? ⟨wr.heap.size, 1, none⟩ = some (.string s) := (hb1.cell (p := ⟨wr.heap.size, 1, none⟩) (by simp; omega)).trans ((((Below.refl _ _).alloc (Nat.le_refl _) _ : Below wA.heap.size wA (wA.alloc (.cells #[.int .i64 (m : Int)] 3))).cell (p := ⟨wr.heap.size, 1, none⟩) hzA).trans a1)
          have hz1 : wr.heap.size < w1.heap.size := by have := hb1.size; simp at this; omega
          have hz2 : wA.heap.size < w1.heap.size := by have := hb1.size; simp at this; omega
          have hz3 : w.heap.size ≤ w1.heap.size := HB1.out.size
          have HSC := Lib.hid (sector_any s w1.drew)
          clear hb1 a0 a1 c1 c2 hw10 HIN HBB HPK
          go_wp2_with fail
          refine wp_region_noPanic ?_
          go_region_held_law (fun w' => w'.cell? ⟨wA.heap.size, 0, none⟩ = some (.int .i64 (m : Int)) ∧ w'.cell? ⟨wr.heap.size, 1, none⟩ = some (.string s))
            (first
              | (go_keep; done)
              | exact ⟨m1, m2⟩
              | exact ⟨m3, m4⟩)
            (first
              | (go_at_call 28; refine HSC.out.mono ?_; rintro e w2 ⟨v2, rfl, g2, cap2, cur2, rfl, hg2, hh2, ht2, hb2⟩
                 rw [secS_len]
                 rw [secS_len] at hg2 ht2
                 have m1 : w2.cell? ⟨wA.heap.size, 0, none⟩ = some (.int .i64 (m : Int)) := (hb2.cell (p := ⟨wA.heap.size, 0, none⟩) hz2).trans q0
                 have m2 : w2.cell? ⟨wr.heap.size, 1, none⟩ = some (.string s) := (hb2.cell (p := ⟨wr.heap.size, 1, none⟩) hz1).trans q1
                 have HB2 : Hid (Below w.heap.size w w2) := Below.step HB1.out.drew hb2
                 have HJ2 : Hid (JwsTwo w2 w.heap.size w.heap.size (.slice p0 M cp0) E) := HJ1.out.drew.below hb2
                 have HG2 := Lib.hid hg2
                 have HH2 := Lib.hid hh2
                 have HTK2 := Lib.hid ht2
                 have hz4 := hb2.size
                 have hz5 : w1.heap.size ≤ w2.heap.size := hz4
                 clear hb2 hg2 hh2 ht2 hz4)
              | (refine step_append_lies _ (by rfl) _ _ _ (by rfl) w.heap.size 44 i0 (.agg #[.int .i64 0, .slice none 0 0]) 2 32 jwT HI0.out HIZ.out HI1.out HI2.out rfl (by omega) _ E.length (jcells E) (by rfl) (HJ2.out.1.alloc _)
                  ⟨w2.heap.size, 0, none⟩ 1 1 [.int .i64 (m : Int), .slice (some ⟨g2, 0, none⟩) 64 cap2] (by rfl) (by rfl) (World.news_of_block (cs := #[.int .i64 (m : Int), .slice (some ⟨g2, 0, none⟩) 64 cap2]) (t := 44) (fr := (0, 0)) (heap_alloc_new w2 _)) (by simp [Value.oneCell'])
                  (by omega) (by rw [HM.out]; unfold maxLen; omega) (by rw [HM.out]; omega) (by simp; omega) (w2.heap.size + 1) (by simp) ?_; intro gg cap4 w4 hown4 hgrow hat hlt4
                 have hj4 := HJ2.out.snoc (n := m) hm256 (secS_len s) ⟨Nat.le_trans hz3 HG2.out.1, HG2.out.2⟩ HH2.out HTK2.out hown4 hgrow
                 have hb4 : Below w.heap.size w w4 := Below.grown (HB2.out.alloc (Nat.le_trans hz3 hz5) _) hgrow (by simp; omega) (fun q hq => (HJ2.out.1.lt q hq).1)
                 have m3 : w4.cell? ⟨wA.heap.size, 0, none⟩ = some (.int .i64 (m : Int)) := (cell_grown hgrow (Nat.lt_of_lt_of_le hz2 hz5) (fun e => by have := HQ0.out _ e.symm; omega)).trans m1
                 have m4 : w4.cell? ⟨wr.heap.size, 1, none⟩ = some (.string s) := (cell_grown hgrow (Nat.lt_of_lt_of_le hz1 hz5) (fun e => by have := HQ0.out _ e.symm; omega)).trans m2
                 have HJ4 := Lib.hid hj4
                 have HB4 := Lib.hid hb4
                 clear hj4 hb4 hown4 hgrow))
          all_goals
            refine NoPanic.normal ?_
            have HT3 : Hid ((E ++ [(⟨m, .slice (some ⟨g2, 0, none⟩) 64 cap2, secS s⟩ : Jw)]).map jab = wrsF (l.take (k + 1))) := by show _ = _; rw [HT2.out, List.map_append]; rfl
            go_wp2
            go_roundw
            case rel => exact ⟨k + 1, _, by omega, by go_num, HJ4, HT3, HB4.out⟩
            case measure => simp [intOf]; omega
      · have hM4i : ¬ (M : Int) < 4 := by omega
        have HT2 : Hid (E.map jab = wrsF (l.take (k + 1))) := by show _ = _; rw [HT.out, if_neg (fun h => hM4 h.1)]
        go_wp2_with fail
        rw [HWA.out]
        refine (HPK.out _).mono ?_
        rintro e w' ⟨rfl, rfl⟩
        go_wp2
        go_roundw
        case rel => exact ⟨k + 1, E, by omega, by go_num, HJA.out.below ((Below.refl _ _).alloc (Nat.le_refl _) _), HT2, HBA.out.alloc HBA.out.size _⟩
        case measure => simp [intOf]; omega
    · have HE : Hid (l.take k = l) := List.take_of_length_le (by rw [← HN.out]; omega)
      rw [HE.out] at HEK
      go_wp2
      go_ret
      exact ⟨_, E, rfl, HJ.out, HEK.out, HB⟩

end Go.Proofs.Ytdcplaonafmbjaa
