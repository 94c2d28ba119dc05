/- How a journal's writes lie in memory; its sums, and numbers as bytes, walked. -/
import Derived.Test.YtdcplaonafmbjaaJnP
import Derived.Test.YtdcplaonafmbjaaDkSpun
import Derived.Deep.QuietTactic
import Derived.BigQuiet
namespace Go.Proofs.Ytdcplaonafmbjaa
open Go.RowKit

structure Jw where
  n : Nat
  v : Value
  D : List Int
def jab (x : Jw) : Wr := (x.n, x.D)
def jec (x : Jw) : Nat × Value := (x.n, x.v)
def jcells (E : List Jw) : List Value := ecells (E.map jec)
theorem jcells_len (E : List Jw) : (jcells E).length = E.length * 2 := by unfold jcells; rw [ecells_len, List.length_map]
theorem jcells_append (a b : List Jw) : jcells (a ++ b) = jcells a ++ jcells b := by unfold jcells; rw [List.map_append, ecells_append]
theorem jcells_get (E : List Jw) (k : Nat) (hk : k < E.length) : (jcells E)[k * 2]? = some (.int .i64 (E[k].n : Int)) ∧ (jcells E)[k * 2 + 1]? = some E[k].v := by
  have := ecells_get (E.map jec) k (by simpa using hk)
  simpa [jcells, jec] using this
def JwOk (w : World) (x : Jw) : Prop := x.n < 256 ∧ BytesAt w x.v x.D ∧ x.D.length = 64
theorem JwOk.below {w w' : World} {x : Jw} (h : JwOk w x) (hb : Below w.heap.size w w') : JwOk w' x := ⟨h.1, RowAt.below h.2.1 hb, h.2.2⟩
def JwNew (w : World) (base : Nat) (x : Jw) : Prop := x.n < 256 ∧ x.D.length = 64 ∧ ∃ g cap cur, x.v = .slice (some ⟨g, 0, none⟩) 64 cap ∧ (base ≤ g ∧ 64 ≤ cap) ∧ w.heap[g]? = some (.cells cur 5 (0, 0)) ∧ cur.toList.take 64 = u8s x.D
theorem JwNew.ok {w : World} {base : Nat} {x : Jw} (h : JwNew w base x) : JwOk w x := by
  obtain ⟨h1, h2, g, cap, cur, h3, _, h5, h6⟩ := h
  refine ⟨h1, ?_, h2⟩
  rw [h3]
  exact bytes_of_row h2 h5 h6
theorem JwNew.keep {w w' : World} {base : Nat} {x : Jw} (h : JwNew w base x) (hk : ∀ i c, base ≤ i → w.heap[i]? = some (.cells c 5 (0, 0)) → w'.heap[i]? = w.heap[i]?) : JwNew w' base x := by
  obtain ⟨h1, h2, g, cap, cur, h3, h4, h5, h6⟩ := h
  exact ⟨h1, h2, g, cap, cur, h3, h4, (hk g cur h4.1 h5).trans h5, h6⟩
theorem JwNew.mono {w : World} {base base' : Nat} {x : Jw} (h : JwNew w base x) (hb : base' ≤ base) : JwNew w base' x := by
  obtain ⟨h1, h2, g, cap, cur, h3, h4, h5, h6⟩ := h
  exact ⟨h1, h2, g, cap, cur, h3, ⟨Nat.le_trans hb h4.1, h4.2⟩, h5, h6⟩
theorem JwNew.one {w : World} {base : Nat} {x : Jw} (h : JwNew w base x) : x.v.oneCell' = true := by
  obtain ⟨h1, h2, g, cap, cur, h3, _⟩ := h
  rw [h3]; rfl
theorem jws_ones {w : World} {base : Nat} {E : List Jw} (h : ∀ x ∈ E, JwNew w base x) : ∀ u ∈ jcells E, u.oneCell' = true := by
  intro u hu
  unfold jcells ecells at hu
  obtain ⟨y, hy, hu⟩ := List.mem_flatMap.1 hu
  obtain ⟨x, hx, rfl⟩ := List.mem_map.1 hy
  simp at hu
  rcases hu with rfl | rfl
  · rfl
  · exact (h x hx).one
theorem JwOk.shape {w : World} {x : Jw} (h : JwOk w x) : ∃ p c, x.v = .slice p 64 c := by
  obtain ⟨_, ⟨_, ⟨h0, _⟩ | ⟨g, o, cap, h5, _⟩⟩, h3⟩ := h
  · omega
  · exact ⟨_, cap, by rw [h5, h3]⟩
/-- Writes that are read. -/
def JwsAt (w : World) (v : Value) (E : List Jw) : Prop := RowAt w v 2 E.length (jcells E) ∧ ∀ x ∈ E, JwOk w x
theorem JwsAt.below {w w' : World} {v : Value} {E : List Jw} (h : JwsAt w v E) (hb : Below w.heap.size w w') : JwsAt w' v E := ⟨RowAt.below h.1 hb, fun x hx => (h.2 x hx).below hb⟩
theorem jws_open {w : World} {v : Value} {E : List Jw} (h : RowAt w v 2 E.length (jcells E)) : ∃ p cp, v = .slice p E.length cp ∧ Hid (0 < E.length → ∃ g o, p = some ⟨g, o, none⟩ ∧ g < w.heap.size ∧ ∀ (j : Nat) (x : Value), (jcells E)[j]? = some x → w.cell? ⟨g, o + j, none⟩ = some x) := by
  obtain ⟨_, ⟨h0, a0, c0, rfl⟩ | ⟨g, o, cap, rfl, hc⟩⟩ := h
  · exact ⟨a0, c0, by rw [h0], fun h => by omega⟩
  · exact ⟨_, cap, rfl, fun h0 => ⟨g, o, rfl, block_lt_of_cell (hc _ _ (jcells_get E 0 h0).1), hc⟩⟩
/-- Writes of the call's own: the row since b, what they hold since B. -/
def JwsTwo (w : World) (b B : Nat) (v : Value) (E : List Jw) : Prop := w.ownsRow b 44 2 v E.length (jcells E) ∧ ∀ x ∈ E, JwNew w B x
theorem JwsTwo.at {w : World} {b B : Nat} {v : Value} {E : List Jw} (h : JwsTwo w b B v E) : JwsAt w v E := ⟨RowAt.of_owns h.1, fun x hx => (h.2 x hx).ok⟩
theorem JwsTwo.below {w w' : World} {b B : Nat} {v : Value} {E : List Jw} (h : JwsTwo w b B v E) (hb : Below w.heap.size w w') : JwsTwo w' b B v E :=
  ⟨owns_keep h.1 fun q hq => hb.block q (h.1.lt q hq).2, fun x hx => (h.2 x hx).keep fun i _ _ hi => hb.block i (heap_lt hi)⟩

set_option maxRecDepth 100000 in
theorem sum_any (n : Int) (hn : 0 ≤ n ∧ n < 4294967296) (v : Value) (b : List Int) (w : World) (h : BytesAt w v b) (hl : b.length ≤ 1000000) :
    Calls Try.prog 61 #[.int .u32 n, v] w fun e w' => e = .returned (.int .u32 (sumB n b)) ∧ w = w' := by
  obtain ⟨N, HN⟩ : ∃ N, Hid (b.length = N) := ⟨_, rfl⟩
  obtain ⟨p, cp, hv, HP⟩ : ∃ p c, v = .slice p N c ∧ Hid (0 < N → ∃ g o, p = some ⟨g, o, none⟩ ∧ ∀ (j : Nat) (x : Value), (u8s b)[j]? = some x → w.cell? ⟨g, o + j, none⟩ = some x) := by
    rw [← HN.out]
    obtain ⟨_, ⟨h0, a0, c0, rfl⟩ | ⟨g, o, cap, rfl, hc⟩⟩ := h
    · exact ⟨a0, c0, by rw [h0], fun h => by omega⟩
    · exact ⟨_, cap, rfl, fun _ => ⟨g, o, rfl, hc⟩⟩
  subst hv
  rw [HN.out] at hl
  clear h
  go_enter Try.func61, Try.ntmps61
  go_wp2
  go_loop [0, 9] (fun a i => ∃ (k : Nat) (q : Int), k ≤ N ∧ i = .int .i64 k ∧ a = .int .u32 q ∧ 0 ≤ q ∧ q < 4294967296 ∧ Hid (sumB n (b.take k) = q)) (fun _ i => N - (intOf i).toNat)
  case atStart => exact ⟨0, n, Nat.zero_le _, rfl, rfl, hn.1, hn.2, rfl⟩
  case round =>
    obtain ⟨k, q, hk, rfl, rfl, hq0, hq1, HQ⟩ := hrel
    by_cases hlt : k < N
    · obtain ⟨g, o, rfl, hc⟩ := HP.out (by omega)
      have hkl : k < b.length := by rw [HN.out]; exact hlt
      obtain ⟨c, Hc⟩ : ∃ c, Hid (b[k] = c) := ⟨b[k], rfl⟩
      have c0 := hc k _ (u8s_get b k hkl)
      rw [Hc.out] at c0
      have hs := sumStep_in q c
      have HS : Hid (sumB n (b.take (k + 1)) = sumStep q c) := by
        show _ = _
        rw [← List.take_append_getElem hkl, sumB_snoc, HQ.out, Hc.out]
      have HS2 := Lib.hid hs
      clear hc hs
      go_wp2
      go_round
      case rel => exact ⟨k + 1, sumStep q c, by omega, by go_num, rfl, HS2.out.1, HS2.out.2, HS⟩
      case measure => simp [intOf]; omega
    · have HF : Hid (sumB n b = q) := by
        have := HQ.out
        rw [List.take_of_length_le (by rw [HN.out]; omega)] at this
        exact this
      go_wp2
      go_ret
      rw [HF.out]
      exact ⟨rfl, rfl⟩

set_option maxRecDepth 100000 in
theorem word_any (n : Int) (h0 : 0 ≤ n) (h1 : n < 4294967296) (w : World) : Calls Try.prog 44 #[.int .u32 n] w fun e w' => e = .returned (.slice (some ⟨w.heap.size, 0, none⟩) 4 4) ∧ w' = w.alloc (.cells (u8s (wordB n)).toArray 5) := by
  go_enter Try.func44, Try.ntmps44
  go_wp2
  go_ret
  exact ⟨rfl, by simp [u8s, wordB]⟩

set_option maxRecDepth 100000 in
theorem read_any (a b c d : Int) (g o m cp : Nat) (hm : 4 ≤ m) (w : World) (c0 : w.cell? ⟨g, o, none⟩ = some (.int .u8 a)) (c1 : w.cell? ⟨g, o + 1, none⟩ = some (.int .u8 b)) (c2 : w.cell? ⟨g, o + 2, none⟩ = some (.int .u8 c)) (c3 : w.cell? ⟨g, o + 3, none⟩ = some (.int .u8 d)) :
    Calls Try.prog 50 #[.slice (some ⟨g, o, none⟩) m cp] w fun e w' => e = .returned (.int .u32 (rdB a b c d)) ∧ Below w.heap.size w w' := by
  have k0 : 0 < m := by omega
  have k1 : 1 < m := by omega
  have k2 : 2 < m := by omega
  have k3 : 3 < m := by omega
  go_enter Try.func50, Try.ntmps50
  go_wp2
  go_quiet (fail)
  go_wp2
  go_ret
  exact ⟨rfl, ⟨rfl, rfl, rfl, Nat.le_refl _, fun _ _ => rfl⟩⟩

set_option maxRecDepth 100000 in
set_option maxHeartbeats 1000000 in
theorem sumW_any (v : Value) (E : List Jw) (w : World) (h : JwsAt w v E) (hl : E.length ≤ 1000) :
    Calls Try.prog 46 #[v] w fun e w' => e = .returned (.int .u32 (sumW (E.map jab))) ∧ Below w.heap.size w w' := by
  have HE := Lib.hid h.2
  obtain ⟨p, cp, rfl, HP⟩ := jws_open h.1
  obtain ⟨N, HN⟩ : ∃ N, Hid (E.length = N) := ⟨_, rfl⟩
  rw [HN.out] at HP hl
  rw [HN.out]
  clear h
  go_enter Try.func46, Try.ntmps46
  go_wp2
  go_loopw [3, 8] (fun a i wr => ∃ (k : Nat) (q : Int), k ≤ N ∧ i = .int .i64 k ∧ a = .int .u32 q ∧ 0 ≤ q ∧ q < 4294967296 ∧ Hid (sumW ((E.take k).map jab) = q) ∧ Below w.heap.size w wr) (fun _ i _ => N - (intOf i).toNat)
  case atStart => exact ⟨0, 2166136261, Nat.zero_le _, rfl, rfl, by omega, by omega, rfl, Below.refl _ _⟩
  case round =>
    obtain ⟨k, q, hk, rfl, rfl, hq0, hq1, HQ, HB⟩ := hrel
    by_cases hlt : k < N
    · obtain ⟨g, o, rfl, hg, hc⟩ := HP.out (by omega)
      have hkl : k < E.length := by rw [HN.out]; exact hlt
      obtain ⟨e0, e1⟩ := jcells_get E k hkl
      have hok := HE.out E[k] (List.getElem_mem hkl)
      have hjs : sumW ((E.take (k + 1)).map jab) = sumB (sumB q [(E[k].n : Int)]) E[k].D := by
        rw [← List.take_append_getElem hkl, List.map_append]
        show sumW (_ ++ [jab E[k]]) = _
        rw [sumW_snoc, HQ.out]; rfl
      generalize E[k] = x at e0 e1 hok hjs
      obtain ⟨xn, xv, xD⟩ := x
      obtain ⟨px, cx, hxs⟩ := hok.shape
      dsimp only at hxs e0 e1 hjs
      subst hxs
      have c0 := (HB.cell (p := ⟨g, o + k * 2, none⟩) hg).trans (hc _ _ e0)
      have c1 := (HB.cell (p := ⟨g, o + (k * 2 + 1), none⟩) hg).trans (hc _ _ e1)
      rw [← Nat.add_assoc] at c1
      have hxn : xn < 256 := hok.1
      have hlt2 : (k : Int) < (N : Int) := by omega
      have hgl : g < wr.heap.size := Nat.lt_of_lt_of_le hg HB.size
      have hgn : ¬ g = wr.heap.size := by omega
      have hs1 := sumB_in ⟨hq0, hq1⟩ [(xn : Int)]
      obtain ⟨s1, HS1⟩ : ∃ s, Hid (sumB q [(xn : Int)] = s) := ⟨_, rfl⟩
      rw [HS1.out] at hjs hs1
      have hs2 := sumB_in hs1 xD
      have HSX := Lib.hid hjs
      have HS2 := Lib.hid hs2
      have hbA : Below wr.heap.size wr (wr.alloc (.cells #[.int .i64 (xn : Int), .slice px 64 cx] 44)) := (Below.refl _ _).alloc (Nat.le_refl _) _
      have hbB : Below wr.heap.size wr ((wr.alloc (.cells #[.int .i64 (xn : Int), .slice px 64 cx] 44)).alloc (.cells (u8s [(xn : Int)]).toArray 5)) := hbA.alloc (by simp) _
      have HBB : Hid (Below w.heap.size w ((wr.alloc (.cells #[.int .i64 (xn : Int), .slice px 64 cx] 44)).alloc (.cells (u8s [(xn : Int)]).toArray 5))) := Below.step HB hbB
      have hnb := heap_alloc_new (wr.alloc (.cells #[.int .i64 (xn : Int), .slice px 64 cx] 44)) (.cells (u8s [(xn : Int)]).toArray 5)
      rw [show (wr.alloc (.cells #[.int .i64 (xn : Int), .slice px 64 cx] 44)).heap.size = wr.heap.size + 1 by simp] at hnb
      have HC1 := Lib.hid (sum_any q ⟨hq0, hq1⟩ (.slice (some ⟨wr.heap.size + 1, 0, none⟩) 1 1) [(xn : Int)] _ (bytes_of_row (n := 1) rfl hnb (by simp [u8s])) (by simp))
      rw [HS1.out] at HC1
      have HC2 := Lib.hid (sum_any s1 hs1 (.slice px 64 cx) xD ((wr.alloc (.cells #[.int .i64 (xn : Int), .slice px 64 cx] 44)).alloc (.cells (u8s [(xn : Int)]).toArray 5)) (RowAt.below hok.2.1 HBB.out) (by rw [hok.2.2]; omega))
      clear hc e0 e1 hok hjs hs1 hs2 hbA hbB hnb
      go_wp2_with fail
      refine HC1.out.mono ?_
      rintro e w' ⟨rfl, rfl⟩
      go_wp2_with fail
      refine HC2.out.mono ?_
      rintro e w' ⟨rfl, rfl⟩
      go_wp2
      go_roundw
      case rel => exact ⟨k + 1, sumB s1 xD, by omega, by go_num, rfl, HS2.out.1, HS2.out.2, HSX, HBB.out⟩
      case measure => simp [intOf]; omega
    · have HF : Hid (sumW (E.map jab) = q) := by
        have := HQ.out
        rw [List.take_of_length_le (by rw [HN.out]; omega)] at this
        exact this
      go_wp2
      go_ret
      rw [HF.out]
      exact ⟨rfl, HB⟩

end Go.Proofs.Ytdcplaonafmbjaa
