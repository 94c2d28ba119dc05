/- Part of the proofs of CheckFresh, FsCut, FsHoles: the texts Jw, GScan, LiftMap, LiftPart, RqRow, LiftOrder. -/
import Derived.Test.YtpoglnpjadmbpaaGreatDoorMA11
import Derived.Test.YtpoglnpjadmbpaaGreatDoorMA25
import Derived.Laws.AppendOwn
import Derived.Maps.RangeWalk
import Derived.Maps.Views
import Derived.Deep.RegionHeldLaw
import Derived.Carry
import Derived.Laws.AppendOwnNone
set_option maxHeartbeats 16000000
namespace Go.Proofs.YtpoglnpjadmbpaaGreatDoor
open Go.RowKit
structure Jw where
 n : Nat
 v : Value
 D : List Int
def jab (x : Jw) : Wr := (x.n, x.D)
def jec (x : Jw) : Nat × Value := (x.n, x.v)
def qhh (E : List Jw) : List Value := qhg (E.map jec)
theorem qnf (a b : List Jw) : qhh (a ++ b) = qhh a ++ qhh b := by unfold qhh; rw [List.map_append, qmr]
theorem qgn (E : List Jw) (k : Nat) (hk : k < E.length) : (qhh E)[k * 2]? = some (.int .i64 (E[k].n : Int)) ∧ (qhh E)[k * 2 + 1]? = some E[k].v := by
 have := quo (E.map jec) k (by simpa using hk)
 simpa [qhh, jec] using this
def JwOk (w : World) (x : Jw) : Prop := x.n < 256 ∧ qae w x.v x.D ∧ x.D.length = 64
def qmg (w : World) (base : Nat) (x : Jw) : Prop := x.n < 256 ∧ x.D.length = 64 ∧ ∃ g cap cur, x.v = .slice (some ⟨g, 0, none⟩) 64 cap ∧ (base ≤ g ∧ 64 ≤ cap) ∧ w.heap[g]? = some (.cells cur 5 (0, 0)) ∧ cur.toList.take 64 = u8s x.D
theorem qmg.ok {w : World} {base : Nat} {x : Jw} (h : qmg w base x) : JwOk w x := by
 obtain ⟨h1, h2, g, cap, cur, h3, _, h5, h6⟩ := h
 refine ⟨h1, ?_, h2⟩
 rw [h3]
 exact qaw h2 h5 h6
theorem qmg.keep {w w' : World} {base : Nat} {x : Jw} (h : qmg w base x) (hk : ∀ i c, base ≤ i → w.heap[i]? = some (.cells c 5 (0, 0)) → w'.heap[i]? = w.heap[i]?) : qmg w' base x := by
 obtain ⟨h1, h2, g, cap, cur, h3, h4, h5, h6⟩ := h
 exact ⟨h1, h2, g, cap, cur, h3, h4, (hk g cur h4.1 h5).trans h5, h6⟩
theorem JwOk.shape {w : World} {x : Jw} (h : JwOk w x) : ∃ p c, x.v = .slice p 64 c := by
 obtain ⟨_, ⟨_, ⟨h0, _⟩ | ⟨g, o, cap, h5, _⟩⟩, h3⟩ := h
 ·omega
 ·exact ⟨_, cap, by rw [h5, h3]⟩
def ybwg (w : World) (v : Value) (E : List Jw) : Prop := qah w v 2 E.length (qhh E) ∧ ∀ x ∈ E, JwOk w x
theorem qqh {w : World} {v : Value} {E : List Jw} (h : qah w v 2 E.length (qhh E)) : ∃ p cp, v = .slice p E.length cp ∧ Hid (0 < E.length → ∃ g o, p = some ⟨g, o, none⟩ ∧ g < w.heap.size ∧ ∀ (j : Nat) (x : Value), (qhh E)[j]? = some x → w.cell? ⟨g, o + j, none⟩ = some x) := by
 obtain ⟨_, ⟨h0, a0, c0, rfl⟩ | ⟨g, o, cap, rfl, hc⟩⟩ := h
 ·exact ⟨a0, c0, by rw [h0], fun h => by omega⟩
 ·exact ⟨_, cap, rfl, fun h0 => ⟨g, o, rfl, block_lt_of_cell (hc _ _ (qgn E 0 h0).1), hc⟩⟩
def qfn (w : World) (b B : Nat) (v : Value) (E : List Jw) : Prop := w.ownsRow b 169 2 v E.length (qhh E) ∧ ∀ x ∈ E, qmg w B x
theorem qfn.at {w : World} {b B : Nat} {v : Value} {E : List Jw} (h : qfn w b B v E) : ybwg w v E := ⟨qah.of_owns h.1, fun x hx => (h.2 x hx).ok⟩
theorem qfn.below {w w' : World} {b B : Nat} {v : Value} {E : List Jw} (h : qfn w b B v E) (hb : Below w.heap.size w w') : qfn w' b B v E :=
 ⟨qch h.1 fun q hq => hb.block q (h.1.lt q hq).2, fun x hx => (h.2 x hx).keep fun i _ _ hi => hb.block i (qab hi)⟩
set_option maxRecDepth 100000 in
theorem ybpr (n : Int) (hn : 0 ≤ n ∧ n < 4294967296) (v : Value) (b : List Int) (w : World) (h : qae w v b) (hl : b.length ≤ 1000000) :
  Calls Tryz.prog 150 #[.int .u32 n, v] w fun e w' => e = .returned (.int .u32 (sumB n b)) ∧ w = w' := by
 obtain ⟨N, HN⟩ : ∃ N, Hid (b.length = N) := ⟨_, rfl⟩
 obtain ⟨p, cp, hv, HP⟩ : ∃ p c, v = .slice p N c ∧ Hid (0 < N → ∃ g o, p = some ⟨g, o, none⟩ ∧ ∀ (j : Nat) (x : Value), (u8s b)[j]? = some x → w.cell? ⟨g, o + j, none⟩ = some x) := by
  rw [← HN.out]
  obtain ⟨_, ⟨h0, a0, c0, rfl⟩ | ⟨g, o, cap, rfl, hc⟩⟩ := h
  ·exact ⟨a0, c0, by rw [h0], fun h => by omega⟩
  ·exact ⟨_, cap, rfl, fun _ => ⟨g, o, rfl, hc⟩⟩
 subst hv
 rw [HN.out] at hl
 clear h
 go_enter Tryz.func150, Tryz.ntmps150
 go_wp2
 go_loop [0, 9] (fun a i => ∃ (k : Nat) (q : Int), k ≤ N ∧ i = .int .i64 k ∧ a = .int .u32 q ∧ 0 ≤ q ∧ q < 4294967296 ∧ Hid (sumB n (b.take k) = q)) (fun _ i => N - (intOf i).toNat)
 case atStart => exact ⟨0, n, Nat.zero_le _, rfl, rfl, hn.1, hn.2, rfl⟩
 case round =>
  obtain ⟨k, q, hk, rfl, rfl, hq0, hq1, HQ⟩ := hrel
  by_cases hlt : k < N
  ·obtain ⟨g, o, rfl, hc⟩ := HP.out (by omega)
   have hkl : k < b.length := by rw [HN.out]; exact hlt
   obtain ⟨c, Hc⟩ : ∃ c, Hid (b[k] = c) := ⟨b[k], rfl⟩
   have c0 := hc k _ (qcl b k hkl)
   rw [Hc.out] at c0
   have hs := qvt q c
   have HS : Hid (sumB n (b.take (k + 1)) = qmc q c) := by
    show _ = _
    rw [← List.take_append_getElem hkl, ybpq, HQ.out, Hc.out]
   have HS2 := Lib.hid hs
   clear hc hs
   go_wp2
   go_round
   case rel => exact ⟨k + 1, qmc q c, by omega, by go_num, rfl, HS2.out.1, HS2.out.2, HS⟩
   case measure => simp [intOf]; omega
  ·have HF : Hid (sumB n b = q) := by
    have := HQ.out
    rw [List.take_of_length_le (by rw [HN.out]; omega)] at this
    exact this
   go_wp2
   go_ret
   rw [HF.out]
   exact ⟨rfl, rfl⟩
set_option maxRecDepth 100000 in
theorem ybvl (n : Int) (h0 : 0 ≤ n) (h1 : n < 4294967296) (w : World) : Calls Tryz.prog 105 #[.int .u32 n] w fun e w' => e = .returned (.slice (some ⟨w.heap.size, 0, none⟩) 4 4) ∧ w' = w.alloc (.cells (u8s (qcm n)).toArray 5) := by
 go_enter Tryz.func105, Tryz.ntmps105
 go_wp2
 go_ret
 exact ⟨rfl, by simp [u8s, qcm]⟩
set_option maxRecDepth 100000 in
theorem qxo (a b c d : Int) (g o m cp : Nat) (hm : 4 ≤ m) (w : World) (c0 : w.cell? ⟨g, o, none⟩ = some (.int .u8 a)) (c1 : w.cell? ⟨g, o + 1, none⟩ = some (.int .u8 b)) (c2 : w.cell? ⟨g, o + 2, none⟩ = some (.int .u8 c)) (c3 : w.cell? ⟨g, o + 3, none⟩ = some (.int .u8 d)) :
  Calls Tryz.prog 154 #[.slice (some ⟨g, o, none⟩) m cp] w fun e w' => e = .returned (.int .u32 (rdB a b c d)) ∧ Below w.heap.size w w' := by
 have k0 : 0 < m := by omega
 have k1 : 1 < m := by omega
 have k2 : 2 < m := by omega
 have k3 : 3 < m := by omega
 go_enter Tryz.func154, Tryz.ntmps154
 go_wp2
 go_quiet (fail)
 go_wp2
 go_ret
 exact ⟨rfl, ⟨rfl, rfl, rfl, Nat.le_refl _, fun _ _ => rfl⟩⟩
set_option maxRecDepth 100000 in
theorem ybgy (v : Value) (E : List Jw) (w : World) (h : ybwg w v E) (hl : E.length ≤ 1000) :
  Calls Tryz.prog 106 #[v] w fun e w' => e = .returned (.int .u32 (sumW (E.map jab))) ∧ Below w.heap.size w w' := by
 have HE := Lib.hid h.2
 obtain ⟨p, cp, rfl, HP⟩ := qqh h.1
 obtain ⟨N, HN⟩ : ∃ N, Hid (E.length = N) := ⟨_, rfl⟩
 rw [HN.out] at HP hl
 rw [HN.out]
 clear h
 go_enter Tryz.func106, Tryz.ntmps106
 go_wp2
 go_loopw [3, 8] (fun a i wr => ∃ (k : Nat) (q : Int), k ≤ N ∧ i = .int .i64 k ∧ a = .int .u32 q ∧ 0 ≤ q ∧ q < 4294967296 ∧ Hid (sumW ((E.take k).map jab) = q) ∧ Below w.heap.size w wr) (fun _ i _ => N - (intOf i).toNat)
 case atStart => exact ⟨0, 2166136261, Nat.zero_le _, rfl, rfl, by omega, by omega, rfl, Below.refl _ _⟩
 case round =>
  obtain ⟨k, q, hk, rfl, rfl, hq0, hq1, HQ, HB⟩ := hrel
  by_cases hlt : k < N
  ·obtain ⟨g, o, rfl, hg, hc⟩ := HP.out (by omega)
   have hkl : k < E.length := by rw [HN.out]; exact hlt
   obtain ⟨e0, e1⟩ := qgn E k hkl
   have hok := HE.out E[k] (List.getElem_mem hkl)
   have hjs : sumW ((E.take (k + 1)).map jab) = sumB (sumB q [(E[k].n : Int)]) E[k].D := by
    rw [← List.take_append_getElem hkl, List.map_append]
    show sumW (_ ++ [jab E[k]]) = _
    rw [ybbk, HQ.out]; rfl
   generalize E[k] = x at e0 e1 hok hjs
   obtain ⟨xn, xv, xD⟩ := x
   obtain ⟨px, cx, hxs⟩ := hok.shape
   dsimp only at hxs e0 e1 hjs
   subst hxs
   have c0 := (HB.cell (p := ⟨g, o + k * 2, none⟩) hg).trans (hc _ _ e0)
   have c1 := (HB.cell (p := ⟨g, o + (k * 2 + 1), none⟩) hg).trans (hc _ _ e1)
   rw [← Nat.add_assoc] at c1
   have hxn : xn < 256 := hok.1
   have hlt2 : (k : Int) < (N : Int) := by omega
   have hgl : g < wr.heap.size := Nat.lt_of_lt_of_le hg HB.size
   have hgn : ¬ g = wr.heap.size := by omega
   have hs1 := qxy ⟨hq0, hq1⟩ [(xn : Int)]
   obtain ⟨s1, HS1⟩ : ∃ s, Hid (sumB q [(xn : Int)] = s) := ⟨_, rfl⟩
   rw [HS1.out] at hjs hs1
   have hs2 := qxy hs1 xD
   have HSX := Lib.hid hjs
   have HS2 := Lib.hid hs2
   have hbA : Below wr.heap.size wr (wr.alloc (.cells #[.int .i64 (xn : Int), .slice px 64 cx] 169)) := (Below.refl _ _).alloc (Nat.le_refl _) _
   have hbB : Below wr.heap.size wr ((wr.alloc (.cells #[.int .i64 (xn : Int), .slice px 64 cx] 169)).alloc (.cells (u8s [(xn : Int)]).toArray 5)) := hbA.alloc (by simp) _
   have HBB : Hid (Below w.heap.size w ((wr.alloc (.cells #[.int .i64 (xn : Int), .slice px 64 cx] 169)).alloc (.cells (u8s [(xn : Int)]).toArray 5))) := Below.step HB hbB
   have hnb := heap_alloc_new (wr.alloc (.cells #[.int .i64 (xn : Int), .slice px 64 cx] 169)) (.cells (u8s [(xn : Int)]).toArray 5)
   rw [show (wr.alloc (.cells #[.int .i64 (xn : Int), .slice px 64 cx] 169)).heap.size = wr.heap.size + 1 by simp] at hnb
   have HC1 := Lib.hid (ybpr q ⟨hq0, hq1⟩ (.slice (some ⟨wr.heap.size + 1, 0, none⟩) 1 1) [(xn : Int)] _ (qaw (n := 1) rfl hnb (by simp [u8s])) (by simp))
   rw [HS1.out] at HC1
   have HC2 := Lib.hid (ybpr s1 hs1 (.slice px 64 cx) xD ((wr.alloc (.cells #[.int .i64 (xn : Int), .slice px 64 cx] 169)).alloc (.cells (u8s [(xn : Int)]).toArray 5)) (qah.below hok.2.1 HBB.out) (by rw [hok.2.2]; omega))
   clear hc e0 e1 hok hjs hs1 hs2 hbA hbB hnb
   go_wp2_with fail
   refine HC1.out.mono ?_
   rintro e w' ⟨rfl, rfl⟩
   go_wp2_with fail
   refine HC2.out.mono ?_
   rintro e w' ⟨rfl, rfl⟩
   go_wp2
   go_roundw
   case rel => exact ⟨k + 1, sumB s1 xD, by omega, by go_num, rfl, HS2.out.1, HS2.out.2, HSX, HBB.out⟩
   case measure => simp [intOf]; omega
  ·have HF : Hid (sumW (E.map jab) = q) := by
    have := HQ.out
    rw [List.take_of_length_le (by rw [HN.out]; omega)] at this
    exact this
   go_wp2
   go_ret
   rw [HF.out]
   exact ⟨rfl, HB⟩
def hB (D : List Int) (j : Nat) : Int := D.getD j 0
def qfy (N : List Int) : Int := rdB (hB (sec N 5) 1) (hB (sec N 5) 2) (hB (sec N 5) 3) (hB (sec N 5) 4)
def qlk (N : List Int) : Nat := (hB (sec N 5) 5).toNat
def qtb (N : List Int) (n : Nat) : List Wr := (List.range n).map fun i => ((hB (sec N 5) (6 + i)).toNat, sec N (6 + i))
def qpz (N : List Int) : Bool := (hB (sec N 5) 0 == 74) && decide (1 ≤ qlk N) && decide (qlk N ≤ 30)
def qxv (N : List Int) : Bool := (hB (sec N (6 + qlk N)) 0 == 67) && (rdB (hB (sec N (6 + qlk N)) 1) (hB (sec N (6 + qlk N)) 2) (hB (sec N (6 + qlk N)) 3) (hB (sec N (6 + qlk N)) 4) == qfy N) &&
 (rdB (hB (sec N (6 + qlk N)) 5) (hB (sec N (6 + qlk N)) 6) (hB (sec N (6 + qlk N)) 7) (hB (sec N (6 + qlk N)) 8) == sumW (qtb N (qlk N)))
theorem ybju (N : List Int) (n : Nat) : qtb N (n + 1) = qtb N n ++ [((hB (sec N 5) (6 + n)).toNat, sec N (6 + n))] := by unfold qtb; rw [List.range_succ, List.map_append]; rfl
theorem qtc (N : List Int) (n : Nat) : (qtb N n).length = n := by unfold qtb; simp
def qeb (D : List Int) : Prop := ∀ x ∈ D, 0 ≤ x ∧ x ≤ 255
theorem qeb.get {D : List Int} (h : qeb D) (j : Nat) : 0 ≤ hB D j ∧ hB D j ≤ 255 := by
 unfold hB
 rw [List.getD_eq_getElem?_getD]
 cases hx : D[j]? with
 | none => simp
 | some x => exact h x (List.mem_of_getElem? hx)
theorem qeb.sec {D : List Int} (h : qeb D) (n : Nat) : qeb (sec D n) := fun x hx => h x (List.mem_of_mem_drop (List.mem_of_mem_take hx))
theorem qlz {D : List Int} {w w' : World} {v : Value} (h : qel D w v w') (hl : D.length = 64) : ∃ g cap cur, v = .slice (some ⟨g, 0, none⟩) 64 cap ∧ 64 ≤ cap ∧ w.heap.size ≤ g ∧ g < w'.heap.size ∧ (∀ j, j < 64 → w'.cell? ⟨g, j, none⟩ = some (.int .u8 (hB D j))) ∧ w'.heap[g]? = some (.cells cur 5 (0, 0)) ∧ cur.toList.take 64 = u8s D ∧ Below w.heap.size w w' := by
 obtain ⟨g, cap, cur, hv, ⟨h1, h2⟩, h3, h4, h5⟩ := h
 rw [hl] at hv h2 h4
 refine ⟨g, cap, cur, hv, h2, h1, qab h3, fun j hj => ?_, h3, h4, h5⟩
 rw [cell_of_row _ _ _ _ _ _ h3]
 have h6 : (u8s D)[j]? = some (.int .u8 (D[j]'(by omega))) := qcl D j (by omega)
 rw [← h4, List.getElem?_take, if_pos hj] at h6
 unfold hB
 rw [List.getD_eq_getElem?_getD, List.getElem?_eq_getElem (by omega)]
 simpa using h6
theorem jwInfo : (Tryz.prog.info? 169).map (fun i => (i.zero, i.size, i.bytes)) = some (some (.agg #[.int .i64 0, .slice none 0 0]), 2, 32) := by kernel_rfl
theorem jwT : Tryz.prog.underlying 123 = some (.slice 169) := by kernel_rfl
theorem ybov {w : World} {d : Value} {st : Dk} {F : Nat → Prop} (h : qay w d st 80 F) : Calls Tryz.prog 153 #[d, .int .i64 5, .int .i64 32] w fun e w' => e = .returned (.int .i64 0) ∧ w = w' := by
 have HS := Lib.hid (qfz h)
 obtain ⟨a, rfl⟩ := h.ptr
 clear h
 go_enter Tryz.func153, Tryz.ntmps153
 go_wp2_with fail
 refine HS.out.mono ?_
 rintro e w' ⟨rfl, rfl⟩
 go_wp2
 go_ret
 exact ⟨rfl, rfl⟩
def ybcg (N : List Int) (w : World) (e : Ending) (w' : World) : Prop :=
 (qpz N = false ∧ e = .returned (.tuple #[.slice none 0 0, .int .u32 0, .bool false, .int .i64 0]) ∧ Below w.heap.size w w') ∨
 (qpz N = true ∧ qxv N = false ∧ e = .returned (.tuple #[.slice none 0 0, .int .u32 (qfy N), .bool false, .int .i64 0]) ∧ Below w.heap.size w w') ∨
 (qpz N = true ∧ qxv N = true ∧ ∃ v E, e = .returned (.tuple #[v, .int .u32 (qfy N), .bool true, .int .i64 0]) ∧ E.map jab = qtb N (qlk N) ∧ qfn w' w.heap.size w.heap.size v E ∧ Below w.heap.size w w')
set_option maxRecDepth 100000 in
theorem ybum {w : World} {a : Addr} {st : Dk} {F : Nat → Prop} (h : qay w (.pointer (some a)) st 80 F) (hN : qeb st.N) :
  Calls Tryz.prog 110 #[.pointer (some a), .int .i64 5, .int .i64 32] w (ybcg st.N w) := by
 unfold ybcg
 have HD := Lib.hid h
 have hlN := h.lens.2
 have hs64 : ∀ n, n < 80 → (sec st.N n).length = 64 := fun n hn => qhn hlN hn
 have HS64 := Lib.hid hs64
 have HBY := Lib.hid (fun n j => (hN.sec n).get j)
 have HRG := Lib.hid (ybov h)
 have HR2 := Lib.hid (qkg h 5 (by omega))
 clear hs64 hlN h
 go_enter Tryz.func110, Tryz.ntmps110
 go_wp2_with fail
 refine HRG.out.mono ?_
 rintro e w' ⟨rfl, rfl⟩
 go_wp2_with fail
 refine HR2.out.mono ?_
 rintro e w1 ⟨v1, rfl, hv1⟩
 obtain ⟨g, cap, _, rfl, hcap, hg0, hg1, hc, _, _, hb1⟩ := qlz hv1 (HS64.out 5 (by omega))
 have HC := Lib.hid hc
 have HB1 := Lib.hid hb1
 obtain ⟨x0, Hx0⟩ : ∃ x, Hid (hB (sec st.N 5) 0 = x) := ⟨_, rfl⟩
 obtain ⟨n, Hn⟩ : ∃ n, Hid (qlk st.N = n) := ⟨_, rfl⟩
 have hn5 : hB (sec st.N 5) 5 = (n : Int) := by
  have := HBY.out 5 5
  rw [← Hn.out]
  unfold qlk
  omega
 have c0 := hc 0 (by omega)
 have c5 := hc 5 (by omega)
 rw [Hx0.out] at c0
 rw [hn5] at c5
 have hn255 : (n : Int) ≤ 255 := by have := HBY.out 5 5; omega
 have HHD : Hid (qpz st.N = ((x0 == 74) && decide (1 ≤ n) && decide (n ≤ 30))) := by show _ = _; unfold qpz; rw [Hx0.out, Hn.out]
 clear hc hv1 hb1 hn5 HR2 HRG
 by_cases hx0 : x0 = 74
 case neg =>
  have b1 : (x0 == 74) = false := by simpa using hx0
  have b2 : (x0 != 74) = true := by simp [bne, b1]
  have HF : Hid (qpz st.N = false) := by show _ = _; rw [HHD.out, b1]; rfl
  clear hx0
  go_wp2
  exact bodyPost_ret (v := .tuple #[.slice none 0 0, .int .u32 0, .bool false, .int .i64 0]) (by simp [results, Tryz.results110, go_sem]) rfl (Or.inl ⟨HF.out, rfl, HB1.out⟩)
 have b1 : (x0 == 74) = true := by simpa using hx0
 have b2 : (x0 != 74) = false := by simp [bne, b1]
 clear hx0
 by_cases hn1 : 1 ≤ n
 case neg =>
  have d1 : decide (n < 1) = true := by rw [decide_eq_true_iff]; omega
  have hn0 : n = 0 := by omega
  subst hn0
  have HF : Hid (qpz st.N = false) := by show _ = _; rw [HHD.out, b1]; rfl
  go_wp2
  exact bodyPost_ret (v := .tuple #[.slice none 0 0, .int .u32 0, .bool false, .int .i64 0]) (by simp [results, Tryz.results110, go_sem]) rfl (Or.inl ⟨HF.out, rfl, HB1.out⟩)
 by_cases hn4 : n ≤ 30
 case neg =>
  have d1 : decide ((n : Int) < 1) = false := by rw [decide_eq_false_iff_not]; omega
  have d2 : decide ((30 : Int) < (n : Int)) = true := by rw [decide_eq_true_iff]; omega
  have d3 : decide (n < 1) = false := by rw [decide_eq_false_iff_not]; omega
  have d4 : decide (30 < n) = true := by rw [decide_eq_true_iff]; omega
  have HF : Hid (qpz st.N = false) := by show _ = _; rw [HHD.out, decide_eq_false hn4]; simp
  go_wp2
  exact bodyPost_ret (v := .tuple #[.slice none 0 0, .int .u32 0, .bool false, .int .i64 0]) (by simp [results, Tryz.results110, go_sem]) rfl (Or.inl ⟨HF.out, rfl, HB1.out⟩)
 have HF : Hid (qpz st.N = true) := by show _ = _; rw [HHD.out, b1, decide_eq_true hn1, decide_eq_true hn4]; rfl
 have d1 : decide ((n : Int) < 1) = false := by rw [decide_eq_false_iff_not]; omega
 have d2 : decide ((30 : Int) < (n : Int)) = false := by rw [decide_eq_false_iff_not]; omega
 have d3 : decide (n < 1) = false := by rw [decide_eq_false_iff_not]; omega
 have d4 : decide (30 < n) = false := by rw [decide_eq_false_iff_not]; omega
 have hcap1 : ¬ cap = 1 := by omega
 have hcap1' : ¬ (1 : Nat) = cap := by omega
 have hcap2 : 1 ≤ cap := by omega
 obtain ⟨sq, Hsq⟩ : ∃ s, Hid (qfy st.N = s) := ⟨_, rfl⟩
 have HRD := Lib.hid (qxo (hB (sec st.N 5) 1) (hB (sec st.N 5) 2) (hB (sec st.N 5) 3) (hB (sec st.N 5) 4) g 1 63 (cap - 1) (by omega) w1 (HC.out 1 (by omega)) (HC.out 2 (by omega)) (HC.out 3 (by omega)) (HC.out 4 (by omega)))
 rw [show rdB (hB (sec st.N 5) 1) (hB (sec st.N 5) 2) (hB (sec st.N 5) 3) (hB (sec st.N 5) 4) = sq from Hsq.out] at HRD
 go_wp2_with fail
 refine HRD.out.mono ?_
 rintro e w2 ⟨rfl, hb2⟩
 have HB2 : Hid (Below w.heap.size w w2) := Below.step HB1.out hb2
 have HC2 : Hid (∀ j, j < 64 → w2.cell? ⟨g, j, none⟩ = some (.int .u8 (hB (sec st.N 5) j))) := fun j hj => (hb2.cell (p := ⟨g, j, none⟩) hg1).trans (HC.out j hj)
 have hg2 : g < w2.heap.size := Nat.lt_of_lt_of_le hg1 hb2.size
 obtain ⟨i0, hi0, hz0, hz1, hz2⟩ := info_parts jwInfo
 have HI0 := Lib.hid hi0
 have HIZ := Lib.hid hz0
 have HI1 := Lib.hid hz1
 have HI2 := Lib.hid hz2
 clear hb2 c0 c5 d1 d2 d3 d4 HC hi0 hz0 hz1 hz2 b1 b2
 go_wp2
 go_loopw [15, 56] (fun l i wr => ∃ (k : Nat) (E : List Jw), k ≤ n ∧ i = .int .i64 k ∧ Hid (E.map jab = qtb st.N k) ∧ Hid (qfn wr w2.heap.size w.heap.size l E) ∧ Hid (Below w2.heap.size w2 wr)) (fun _ i _ => n - (intOf i).toNat)
 case atStart => exact ⟨0, [], Nat.zero_le _, rfl, rfl, ⟨World.ownsRow_nil _ _ _ _, fun x hx => by simp at hx⟩, Below.refl _ _⟩
 case round =>
  obtain ⟨k, E, hk, rfl, HEK, HJ, HB⟩ := hrel
  by_cases hlt : k < n
  ·have HDR := Lib.hid (HD.out.below (Below.step HB2.out HB.out))
   have HRK := Lib.hid (qkg HDR.out (6 + k) (by omega))
   rw [show ((6 + k : Nat) : Int) = 6 + (k : Int) by omega] at HRK
   have hlt2 : (k : Int) < (n : Int) := by omega
   go_wp2_with fail
   refine HRK.out.mono ?_
   rintro e w3 ⟨v3, rfl, hv3⟩
   obtain ⟨gd, capd, curd, rfl, hcapd, hgd0, hgd1, _, hhd, htd, hb3⟩ := qlz hv3 (HS64.out (6 + k) (by omega))
   have HJ3 := Lib.hid (HJ.out.below hb3)
   have HB3 : Hid (Below w2.heap.size w2 w3) := HB.out.trans (hb3.mono HB.out.size)
   have hh6 := HBY.out 5 (6 + k)
   obtain ⟨y, Hy⟩ : ∃ y : Nat, Hid (hB (sec st.N 5) (6 + k) = (y : Int)) := ⟨(hB (sec st.N 5) (6 + k)).toNat, by show _ = _; omega⟩
   have hy255 : (y : Int) ≤ 255 := by rw [← Hy.out]; exact hh6.2
   have c6 : w3.cell? ⟨g, 6 + k, none⟩ = some (.int .u8 (y : Int)) := by
    rw [← Hy.out]
    exact (HB3.out.cell (p := ⟨g, 6 + k, none⟩) hg2).trans (HC2.out (6 + k) (by omega))
   have HJN : Hid (qmg (w3.alloc (.cells #[.int .i64 (y : Int), .slice (some ⟨gd, 0, none⟩) 64 capd] 169)) w.heap.size ⟨y, .slice (some ⟨gd, 0, none⟩) 64 capd, sec st.N (6 + k)⟩) :=
    ⟨by show y < 256; omega, HS64.out (6 + k) (by omega), gd, capd, curd, rfl, ⟨Nat.le_trans HB2.out.size (Nat.le_trans HB.out.size hgd0), hcapd⟩, qad hhd _, htd⟩
   have HEK2 : Hid ((E ++ [(⟨y, .slice (some ⟨gd, 0, none⟩) 64 capd, sec st.N (6 + k)⟩ : Jw)]).map jab = qtb st.N (k + 1)) := by
    show _ = _
    rw [List.map_append, HEK.out, ybju, Hy.out]
    rfl
   have hEl : E.length = k := by
    have := congrArg List.length HEK.out
    rwa [List.length_map, qtc] at this
   have HEL := Lib.hid hEl
   have hsz := HB3.out.size
   have hk4 : k < 30 := by omega
   have e9 : 6 + k < 64 := by omega
   have HNB : Hid ((w3.alloc (.cells #[.int .i64 (y : Int), .slice (some ⟨gd, 0, none⟩) 64 capd] 169)).heap[w3.heap.size]? = some (.cells #[.int .i64 (y : Int), .slice (some ⟨gd, 0, none⟩) 64 capd] 169 (0, 0))) := heap_alloc_new _ _
   have HJA := Lib.hid (HJ3.out.below ((Below.refl _ _).alloc (Nat.le_refl _) (.cells #[.int .i64 (y : Int), .slice (some ⟨gd, 0, none⟩) 64 capd] 169)))
   clear hh6 hb3 hv3 hhd htd hgd0 hEl HDR HRK
   go_wp2_with (at_builtin; refine wpList_append_own _ rfl _ _ 123 rfl w2.heap.size 169 i0 (.agg #[.int .i64 0, .slice none 0 0]) 2 32 jwT HI0.out HIZ.out HI1.out HI2.out rfl (by decide) _ _ _ rfl HJA.out.1 ⟨_, 0, none⟩ 1 1 [.int .i64 (y : Int), .slice (some ⟨gd, 0, none⟩) 64 capd] rfl rfl (World.news_of_block (cs := #[.int .i64 (y : Int), .slice (some ⟨gd, 0, none⟩) 64 capd]) (t := 169) (fr := (0, 0)) HNB.out) (by simp [Value.oneCell']) (by rw [HEL.out]; unfold maxLen; omega) (by rw [HEL.out]; omega) (by simp; omega) ?_; intro v5 w5 hown hgrow _)
   have HJ5 : Hid (qfn w5 w2.heap.size w.heap.size v5 (E ++ [(⟨y, .slice (some ⟨gd, 0, none⟩) 64 capd, sec st.N (6 + k)⟩ : Jw)])) := by
    have hkeep : ∀ (i : Nat) (c : Array Value), (w3.alloc (.cells #[.int .i64 (y : Int), .slice (some ⟨gd, 0, none⟩) 64 capd] 169)).heap[i]? = some (.cells c 5 (0, 0)) → w5.heap[i]? = (w3.alloc (.cells #[.int .i64 (y : Int), .slice (some ⟨gd, 0, none⟩) 64 capd] 169)).heap[i]? := fun i c hi => hgrow.block i (qab hi) (fun e => qdr HJA.out.1 hi (by decide) e.symm)
    refine ⟨by rw [List.length_append, qnf]; exact hown, fun x hx => ?_⟩
    rcases List.mem_append.1 hx with hx | hx
    ·exact (HJA.out.2 x hx).keep fun i c _ hi => hkeep i c hi
    ·rw [List.mem_singleton] at hx
     subst hx
     exact HJN.out.keep fun i c _ hi => hkeep i c hi
   have HB5 : Hid (Below w2.heap.size w2 w5) := Below.grown (HB3.out.alloc hsz _) hgrow (by simp; omega) (fun q hq => (HJ.out.1.lt q hq).1)
   clear hown hgrow
   go_wp2
   go_roundw
   case rel => exact ⟨k + 1, E ++ [(⟨y, .slice (some ⟨gd, 0, none⟩) 64 capd, sec st.N (6 + k)⟩ : Jw)], by omega, by go_num, HEK2, HJ5, HB5⟩
   case measure => simp [intOf]; omega
  ·obtain rfl : k = n := by omega
   have HDR := Lib.hid (HD.out.below (Below.step HB2.out HB.out))
   have HRT := Lib.hid (qkg HDR.out (6 + k) (by omega))
   rw [show ((6 + k : Nat) : Int) = 6 + (k : Int) by omega] at HRT
   have hBW : Below w.heap.size w wr := HB2.out.trans (HB.out.mono HB2.out.size)
   have HBW := Lib.hid hBW
   clear hBW HDR
   go_wp2_with fail
   refine HRT.out.mono ?_
   rintro e w3 ⟨v3, rfl, hv3⟩
   obtain ⟨gt, capt, _, rfl, hcapt, hgt0, hgt1, hct, _, _, hb3⟩ := qlz hv3 (HS64.out (6 + k) (by omega))
   have HB3 := Lib.hid (Below.step HBW.out hb3)
   have HJ3 := Lib.hid (HJ.out.below hb3)
   have HCT := Lib.hid hct
   have ct0 := hct 0 (by omega)
   obtain ⟨t0, Ht0⟩ : ∃ t, Hid (hB (sec st.N (6 + k)) 0 = t) := ⟨_, rfl⟩
   rw [Ht0.out] at ct0
   obtain ⟨ts, Hts⟩ : ∃ t, Hid (rdB (hB (sec st.N (6 + k)) 1) (hB (sec st.N (6 + k)) 2) (hB (sec st.N (6 + k)) 3) (hB (sec st.N (6 + k)) 4) = t) := ⟨_, rfl⟩
   obtain ⟨tz, Htz⟩ : ∃ t, Hid (rdB (hB (sec st.N (6 + k)) 5) (hB (sec st.N (6 + k)) 6) (hB (sec st.N (6 + k)) 7) (hB (sec st.N (6 + k)) 8) = t) := ⟨_, rfl⟩
   obtain ⟨sw, Hsw⟩ : ∃ t, Hid (sumW (qtb st.N k) = t) := ⟨_, rfl⟩
   have HTT : Hid (qxv st.N = ((t0 == 67) && (ts == sq) && (tz == sw))) := by
    show _ = _
    unfold qxv
    rw [Hn.out, Ht0.out, Hts.out, Htz.out, Hsw.out, Hsq.out]
   have hEl : E.length = k := by
    have := congrArg List.length HEK.out
    rwa [List.length_map, qtc] at this
   clear hct hv3 hb3 HRT
   by_cases hq0 : t0 = 67
   case neg =>
    have b1 : (t0 == 67) = false := by simpa using hq0
    have b2 : (t0 != 67) = true := by simp [bne, b1]
    have HTF : Hid (qxv st.N = false) := by show _ = _; rw [HTT.out, b1]; rfl
    clear hq0
    go_wp2
    exact bodyPost_ret (v := .tuple #[.slice none 0 0, .int .u32 (qfy st.N), .bool false, .int .i64 0]) (by simp [results, Tryz.results110, go_sem, Hsq.out]) rfl (Or.inr (Or.inl ⟨HF.out, HTF.out, rfl, HB3.out⟩))
   have b1 : (t0 == 67) = true := by simpa using hq0
   have b2 : (t0 != 67) = false := by simp [bne, b1]
   have ht1 : ¬ capt = 1 := by omega
   have ht2 : 1 ≤ capt := by omega
   have ht5 : ¬ capt = 5 := by omega
   have ht6 : 5 ≤ capt := by omega
   have HRD2 := Lib.hid (qxo (hB (sec st.N (6 + k)) 1) (hB (sec st.N (6 + k)) 2) (hB (sec st.N (6 + k)) 3) (hB (sec st.N (6 + k)) 4) gt 1 63 (capt - 1) (by omega) w3 (HCT.out 1 (by omega)) (HCT.out 2 (by omega)) (HCT.out 3 (by omega)) (HCT.out 4 (by omega)))
   rw [Hts.out] at HRD2
   clear hq0
   go_wp2_with fail
   refine HRD2.out.mono ?_
   rintro e w4 ⟨rfl, hb4⟩
   have HB4 := Lib.hid (Below.step HB3.out hb4)
   have HJ4 := Lib.hid (HJ3.out.below hb4)
   have HCT4 : Hid (∀ j, j < 64 → w4.cell? ⟨gt, j, none⟩ = some (.int .u8 (hB (sec st.N (6 + k)) j))) := fun j hj => (hb4.cell (p := ⟨gt, j, none⟩) hgt1).trans (HCT.out j hj)
   clear hb4 ct0
   by_cases hq1 : ts = sq
   case neg =>
    have b3 : (ts == sq) = false := by simpa using hq1
    have b4 : (ts != sq) = true := by simp [bne, b3]
    have HTF : Hid (qxv st.N = false) := by show _ = _; rw [HTT.out, b3]; simp
    clear hq1
    go_wp2
    exact bodyPost_ret (v := .tuple #[.slice none 0 0, .int .u32 (qfy st.N), .bool false, .int .i64 0]) (by simp [results, Tryz.results110, go_sem, Hsq.out]) rfl (Or.inr (Or.inl ⟨HF.out, HTF.out, rfl, HB4.out⟩))
   have b3 : (ts == sq) = true := by simpa using hq1
   have b4 : (ts != sq) = false := by simp [bne, b3]
   have HRD3 := Lib.hid (qxo (hB (sec st.N (6 + k)) 5) (hB (sec st.N (6 + k)) 6) (hB (sec st.N (6 + k)) 7) (hB (sec st.N (6 + k)) 8) gt 5 59 (capt - 5) (by omega) w4 (HCT4.out 5 (by omega)) (HCT4.out 6 (by omega)) (HCT4.out 7 (by omega)) (HCT4.out 8 (by omega)))
   rw [Htz.out] at HRD3
   clear hq1
   go_wp2_with fail
   refine HRD3.out.mono ?_
   rintro e w5 ⟨rfl, hb5⟩
   have HB5 := Lib.hid (Below.step HB4.out hb5)
   have HJ5 := Lib.hid (HJ4.out.below hb5)
   have HSW := Lib.hid (ybgy u15 E w5 HJ5.out.at (by omega))
   rw [HEK.out, Hsw.out] at HSW
   clear hb5
   go_wp2_with fail
   refine HSW.out.mono ?_
   rintro e w6 ⟨rfl, hb6⟩
   have HB6 := Lib.hid (Below.step HB5.out hb6)
   have HJ6 := Lib.hid (HJ5.out.below hb6)
   clear hb6
   by_cases hq2 : tz = sw
   case neg =>
    have b5 : (tz == sw) = false := by simpa using hq2
    have b6 : (tz != sw) = true := by simp [bne, b5]
    have HTF : Hid (qxv st.N = false) := by show _ = _; rw [HTT.out, b5]; simp
    clear hq2
    go_wp2
    exact bodyPost_ret (v := .tuple #[.slice none 0 0, .int .u32 (qfy st.N), .bool false, .int .i64 0]) (by simp [results, Tryz.results110, go_sem, Hsq.out]) rfl (Or.inr (Or.inl ⟨HF.out, HTF.out, rfl, HB6.out⟩))
   have b5 : (tz == sw) = true := by simpa using hq2
   have b6 : (tz != sw) = false := by simp [bne, b5]
   have HTF : Hid (qxv st.N = true) := by show _ = _; rw [HTT.out, b1, b3, b5]; rfl
   clear hq2
   go_wp2
   refine bodyPost_ret (v := .tuple #[u15, .int .u32 (qfy st.N), .bool true, .int .i64 0]) (by simp [results, Tryz.results110, go_sem, Hsq.out]) rfl (Or.inr (Or.inr ⟨HF.out, HTF.out, u15, E, rfl, by rw [Hn.out]; exact HEK.out, ?_, HB6.out⟩))
   obtain ⟨o1, o2⟩ := HJ6.out
   refine ⟨?_, o2⟩
   obtain ⟨e1, h | ⟨g', cap', cur', hv', hg', r'⟩⟩ := o1
   ·exact ⟨e1, Or.inl h⟩
   ·exact ⟨e1, Or.inr ⟨g', cap', cur', hv', Nat.le_trans HB2.out.size hg', r'⟩⟩
end Go.Proofs.YtpoglnpjadmbpaaGreatDoor
namespace Go.Proofs.YtpoglnpjadmbpaaGreatDoor
open Go.RowKit Go.Maps
def RV (v : Value) : Option (DataW Value × List MemPlace) := some (.held v, [])
def keyL (n : Nat) : Lit := .int .i64 (n : Int)
def mapD (E : List Rq) : DataW Value := E.foldl (fun D x => D.put (keyL x.n) (.held x.v)) (.map [])
def wrs (E : List Rq) : List Wr := E.map fun x => (x.n, x.D)
theorem qhy (E : List Rq) (x : Rq) : mapD (E ++ [x]) = (mapD E).put (keyL x.n) (.held x.v) := by unfold mapD; rw [List.foldl_append]; rfl
theorem qyk (E : List Rq) (x : Rq) : wrs (E ++ [x]) = wrs E ++ [(x.n, x.D)] := by simp [wrs]
theorem qqi (n : Nat) : WideAt.IsKeyLit (keyL n) := by unfold keyL; trivial
theorem qxd {a b : Nat} (h : keyL a = keyL b) : a = b := by unfold keyL at h; injection h with _ h; omega
structure ybqt (E : List Rq) : Prop where
 im : IsMap (mapD E)
 back : ∀ kl, has (mapD E) kl = true → ∃ x ∈ E, kl = keyL x.n ∧ (∀ z, (mapD E).atKey kl z = .held x.v) ∧ qex (wrs E) x.n = some x.D
 there : ∀ n, has (mapD E) (keyL n) = (qex (wrs E) n).isSome
theorem ybir {E : List Rq} (h : ybqt E) (x : Rq) : ybqt (E ++ [x]) := by
 refine ⟨?_, ?_, ?_⟩
 ·rw [qhy]; exact h.im.put _ _
 ·intro kl hk
  rw [qhy] at hk
  by_cases e : kl = keyL x.n
  ·subst e
   refine ⟨x, by simp, rfl, fun z => ?_, ?_⟩
   ·rw [qhy]; exact atKey_put_same h.im (qqi _) _ _
   ·rw [qyk, qkv, if_pos rfl]
  ·rw [has_put_other e] at hk
   obtain ⟨y, hy, h1, h2, h3⟩ := h.back kl hk
   refine ⟨y, by simp [hy], h1, fun z => ?_, ?_⟩
   ·rw [qhy, atKey_put_other e]; exact h2 z
   ·rw [qyk, qkv, if_neg (fun e2 => e (by rw [h1, ← e2]))]; exact h3
 ·intro n
  rw [qhy, qyk, qkv]
  by_cases e : x.n = n
  ·subst e
   rw [has_put_same h.im (qqi _), if_pos rfl]; rfl
  ·rw [has_put_other (fun e2 => e (qxd e2).symm), if_neg e]; exact h.there n
theorem ybnn (E : List Rq) : ybqt E := by
 have key : ∀ k, k ≤ E.length → ybqt (E.take k) := by
  intro k
  induction k with
  | zero => intro _; exact ⟨isMap_empty, fun kl hk => by simp [mapD, has] at hk, fun n => rfl⟩
  | succ k ih =>
   intro hk
   rw [← List.take_append_getElem (show k < E.length by omega)]
   exact ybir (ih (by omega)) _
 have := key E.length (Nat.le_refl _)
 rwa [List.take_length] at this
def New64c (D : List Int) (w : World) (v : Value) (w' : World) : Prop :=
 ∃ g cap cur, v = .slice (some ⟨g, 0, none⟩) 64 cap ∧ (w.heap.size ≤ g ∧ 64 ≤ cap) ∧ w'.heap[g]? = some (.cells cur 5 (0, 0)) ∧ cur.toList.take 64 = u8s D ∧ Below w.heap.size w w'
theorem ybri (v : Value) (D : List Int) (w : World) (h : qae w v D) (hD : D.length = 64) : Calls Tryz.prog 98 #[v] w fun e w' => ∃ v', e = .returned v' ∧ New64c D w v' w' :=
 (qgr v D w h (by omega) (by omega)).mono fun e w' ⟨v', he, g, cap, cur, hv, h1, h2, h3, h4⟩ => ⟨v', he, g, cap, cur, by rw [hv, hD], ⟨h1.1, by rw [← hD]; exact h1.2⟩, h2, by rw [← hD]; exact h3, h4⟩
structure qlh (R : List Wr) (base : Nat) (w : World) (left : Lit → Bool) (O : List Rk) : Prop where
 el : ∀ x ∈ O, x.1 < 256 ∧ ∃ D cur, qex R x.1 = some D ∧ D.length = 64 ∧ (base ≤ x.2.1 ∧ 64 ≤ x.2.2) ∧ w.heap[x.2.1]? = some (.cells cur 5 (0, 0)) ∧ cur.toList.take 64 = u8s D
 nd : (O.map fun x => x.1).Nodup
 all : ∀ n D, qex R n = some D → left (keyL n) = true ∨ n ∈ O.map fun x => x.1
 out : ∀ x ∈ O, left (keyL x.1) = false
theorem qlh.keep {R : List Wr} {base : Nat} {w w' : World} {left : Lit → Bool} {O : List Rk} (h : qlh R base w left O) (hk : ∀ i c, base ≤ i → w.heap[i]? = some (.cells c 5 (0, 0)) → w'.heap[i]? = w.heap[i]?) : qlh R base w' left O :=
 ⟨fun x hx => by
  obtain ⟨h1, D, cur, h2, h3, h4, h5, h6⟩ := h.el x hx
  exact ⟨h1, D, cur, h2, h3, h4, (hk _ _ h4.1 h5).trans h5, h6⟩, h.nd, h.all, h.out⟩
theorem qlh.start (R : List Wr) (base : Nat) (w : World) (left : Lit → Bool) (h : ∀ n D, qex R n = some D → left (keyL n) = true) : qlh R base w left [] :=
 ⟨fun x hx => by simp at hx, by simp, fun n D hn => Or.inl (h n D hn), fun x hx => by simp at hx⟩
theorem qlh.step {R : List Wr} {base : Nat} {w : World} {left : Lit → Bool} {O : List Rk} (h : qlh R base w left O) (n g c : Nat) (D : List Int) (cur : Array Value) (hl : left (keyL n) = true) (hn : n < 256) (hD : qex R n = some D) (h64 : D.length = 64) (hg : base ≤ g ∧ 64 ≤ c)
  (hh : w.heap[g]? = some (.cells cur 5 (0, 0))) (ht : cur.toList.take 64 = u8s D) : qlh R base w (fun z => left z && !z.sameKey (keyL n)) (O ++ [(n, g, c)]) := by
 have hself : (keyL n).sameKey (keyL n) = true := WideAt.sameKey_self (qqi n)
 refine ⟨fun x hx => ?_, ?_, fun m E hm => ?_, fun x hx => ?_⟩
 ·rcases List.mem_append.1 hx with hx | hx
  ·exact h.el x hx
  ·simp at hx; subst hx
   exact ⟨hn, D, cur, hD, h64, hg, hh, ht⟩
 ·rw [List.map_append, List.nodup_append]
  refine ⟨h.nd, by simp, fun a ha b hb e => ?_⟩
  simp at hb
  obtain ⟨x, hx, rfl⟩ := List.mem_map.1 ha
  have := h.out x hx
  rw [show x.1 = n by omega, hl] at this
  cases this
 ·rcases h.all m E hm with h1 | h1
  ·by_cases e : m = n
   ·subst e; exact Or.inr (by simp)
   ·refine Or.inl ?_
    have : (keyL m).sameKey (keyL n) = false := sameKey_ne fun e2 => e (qxd e2)
    simp [h1, this]
  ·exact Or.inr (by rw [List.map_append, List.mem_append]; exact Or.inl h1)
 ·rcases List.mem_append.1 hx with hx | hx
  ·simp [h.out x hx]
  ·simp at hx; subst hx
   simp [hself]
theorem ybug : Tryz.prog.underlying 167 = some (.slice 171) := by kernel_rfl
theorem qxp : (Tryz.prog.info? 171).map (fun i => (i.zero, i.size, i.bytes)) = some (some (.agg #[.int .i64 0, .slice none 0 0, .bool false]), 3, 40) := by kernel_rfl
theorem ybow : Tryz.prog.underlying 93 = some (.map 3 38) := by kernel_rfl
theorem qit : Keyed Tryz.prog 3 := int_keyed (q := .i64) (by kernel_rfl)
theorem ybqh (n : Nat) (h : n < 256) : (Lit.int .i64 (n : Int)).wf = true := by
 simp [Lit.wf, IntKind.min, IntKind.max, IntKind.signed, IntKind.bits]; omega
def qmk : Prop := ∀ (gh h base : Nat) (v : Value) (O : List Rk) (W : World), h < 256 → W.ownsRow base 171 3 v O.length (O.flatMap encK) → W.heap[gh]? = some (.cells #[.int .i64 (h : Int)] 3 (0, 0)) → O.length ≤ 1000000 →
 Calls Tryz.prog 202 #[v, .func (.func 203) #[] #[.pointer (some ⟨gh, 0, none⟩)]] W fun e w' => e = .returned (.tuple #[]) ∧
  ∃ O' : List Rk, O'.Perm O ∧ O'.Pairwise (fun a b => farN h (a.1 % 256) ≤ farN h (b.1 % 256)) ∧ w'.ownsRow base 171 3 v O'.length (O'.flatMap encK) ∧ W.grownBy w' v.ownBlock
def toRq (R : List Wr) (x : Rk) : Rq := ⟨x.1, .slice (some ⟨x.2.1, 0, none⟩) 64 x.2.2, (qex R x.1).getD [], false⟩
theorem qvv {R : List Wr} {O : List Rk} (h : ∀ x ∈ O, x.1 < 256) : qbg (O.map (toRq R)) = O.flatMap encK := by
 induction O with
 | nil => rfl
 | cons x O ih =>
  rw [List.map_cons, qss, List.flatMap_cons, ih fun y hy => h y (by simp [hy])]
  congr 1
  show [_, _, _] = [_, _, _]
  rw [Nat.mod_eq_of_lt (h x (by simp))]
  rfl
theorem ybpv {R : List Wr} {O : List Rk} : (O.map (toRq R)).map rab = emit (O.map fun x => (x.1, (qex R x.1).getD [])) := by
 unfold emit
 rw [List.map_map, List.map_map]
 rfl
theorem ybua {R : List Wr} {h base : Nat} {w : World} {left : Lit → Bool} {O O' : List Rk} (hh : h < 256) (_hR : ∀ n D, qex R n = some D → n < 256) (ho : qlh R base w left O) (hl : ∀ kl, left kl = false) (hp : O'.Perm O) (hs : O'.Pairwise fun a b => farN h (a.1 % 256) ≤ farN h (b.1 % 256)) :
  (O'.map fun x => (x.1, (qex R x.1).getD [])) = qdb R h := by
 have hlt : ∀ x ∈ O', x.1 < 256 := fun x hx => (ho.el x (hp.mem_iff.1 hx)).1
 have hnd : (O'.map fun x => x.1).Nodup := (hp.map fun x => x.1).nodup_iff.2 ho.nd
 refine ybon hh ?_ fun x => ?_
 ·rw [List.pairwise_map]
  rw [List.Nodup, List.pairwise_map] at hnd
  have hboth := List.Pairwise.and hs hnd
  refine hboth.imp_of_mem ?_
  intro a b ha hb hab
  have h1 := hlt a ha
  have h2 := hlt b hb
  have h3 := hab.1
  rw [Nat.mod_eq_of_lt h1, Nat.mod_eq_of_lt h2] at h3
  show farN h a.1 < farN h b.1
  rcases Nat.lt_or_eq_of_le h3 with h4 | h4
  ·exact h4
  ·exact absurd (ybxe hh h1 h2 h4) hab.2
 ·constructor
  ·intro hx
   obtain ⟨y, hy, rfl⟩ := List.mem_map.1 hx
   obtain ⟨h1, D, cur, h2, _⟩ := ho.el y (hp.mem_iff.1 hy)
   exact ⟨h1, by rw [h2]; rfl⟩
  ·rintro ⟨h1, h2⟩
   rcases ho.all x.1 x.2 h2 with h3 | h3
   ·rw [hl] at h3; cases h3
   ·have h4 := (hp.map fun x => x.1).mem_iff.2 h3
    obtain ⟨y, hy, hy2⟩ := List.mem_map.1 h4
    refine List.mem_map.2 ⟨y, hy, ?_⟩
    rw [hy2, h2]
    rfl
theorem ybxu {E : List Rq} (h : ∀ x ∈ E, x.n < 256) : ∀ n D, qex (wrs E) n = some D → n < 256 := by
 intro n D hn
 obtain ⟨x, hx, e⟩ := List.mem_map.1 (qng _ n D hn)
 have := h x hx
 have e2 : x.n = n := by injection e
 omega
theorem ybjb {w : World} {base : Nat} {e : TypeId} {size n : Nat} {v : Value} {xs : List Value} {b : Nat} {es : Array MapEntry} {c : Nat} (h : w.ownsRow base e size v n xs) (hb : w.heap[b]? = some (.map es c)) : v.ownBlock ≠ some b := by
 rcases h.2 with ⟨rfl, _⟩ | ⟨g', cap, cur, rfl, _, hh, _⟩
 ·simp [Value.ownBlock]
 ·intro he
  have : g' = b := by simpa [Value.ownBlock] using he
  subst this
  rw [hb] at hh; cases hh
theorem ybdz {w : World} {base : Nat} {e : TypeId} {size n : Nat} {v : Value} {xs : List Value} {b : Nat} {m : Option Nat} {s : Nat} {sn : Array Nat} {c : Nat} (h : w.ownsRow base e size v n xs) (hb : w.heap[b]? = some (.mapIter m s sn c)) : v.ownBlock ≠ some b := by
 rcases h.2 with ⟨rfl, _⟩ | ⟨g', cap, cur, rfl, _, hh, _⟩
 ·simp [Value.ownBlock]
 ·intro he
  have : g' = b := by simpa [Value.ownBlock] using he
  subst this
  rw [hb] at hh; cases hh
theorem ybaw {w : World} {base : Nat} {e : TypeId} {size n : Nat} {v : Value} {xs : List Value} {b r m cnt : Nat} {D : DataW Value} {left : Lit → Bool} (h : w.ownsRow base e size v n xs) (hr : w.ranges Tryz.prog 3 RV b r m D left cnt) : some b ≠ v.ownBlock ∧ some r ≠ v.ownBlock := by
 obtain ⟨es, clock, since, seen, c0, hb, _, _, _, hr, _⟩ := hr
 exact ⟨fun e => ybjb h hb e.symm, fun e => ybdz h hr e.symm⟩
theorem ybav {w : World} {b r m cnt : Nat} {D : DataW Value} {left : Lit → Bool} (hr : w.ranges Tryz.prog 3 RV b r m D left cnt) : ∃ o, w.heap[r]? = some o ∧ ∀ c t f, o ≠ .cells c t f := by
 obtain ⟨es, clock, since, seen, c0, hb, _, _, _, hr, _⟩ := hr
 exact ⟨_, hr, fun c t f h => by cases h⟩
theorem ybao {R : List Wr} {base : Nat} {w : World} {left : Lit → Bool} {O : List Rk} (h : qlh R base w left O) : O.length ≤ 256 := by
 have := qnj (B := List.range 256) h.nd fun n hn => by
  obtain ⟨x, hx, rfl⟩ := List.mem_map.1 hn
  exact List.mem_range.2 (h.el x hx).1
 simpa using this
theorem ybcs (O : List Rk) (x : Rk) : (O ++ [x]).flatMap encK = O.flatMap encK ++ encK x := by simp
theorem ybxs : ∀ (key : Value) (kl : Lit), keyOf Tryz.prog 3 key = some kl → ∃ x : Int, key = .int .i64 x := fun key kl h => by
 obtain ⟨x, hx, _⟩ := Maps.keyOf_int_inv (q := .i64) (by kernel_rfl) h
 exact ⟨x, hx⟩
theorem qln {a b : World} (h : Below a.heap.size a b) : a.grownBy b none := ⟨h.os, h.tape, h.output, h.size, fun i hi _ => h.block i hi⟩
theorem qmm {B : Nat} {a w : World} (h : Below B a w) (n : Nat) : Below B a (w.drewN n) := ⟨h.os, h.tape, h.output, h.size, h.block⟩
def qqs (R : List Wr) (h : Nat) (w : World) (e : Ending) (w' : World) : Prop :=
 ∃ v', e = .returned (.tuple #[v', .int .i64 (qjv R h : Int)]) ∧ qem w' w.heap.size v' (emit (qdb R h)) ∧ Below w.heap.size w w'
set_option maxRecDepth 100000 in
theorem ybgk (hsort : qmk) (v : Value) (E : List Rq) (h : Nat) (hh : h < 256) (w : World) (hv : qah w v 3 E.length (qbg E)) (hE : ∀ x ∈ E, x.b = false ∧ x.n < 256 ∧ qae w x.v x.D ∧ x.D.length = 64) (hl : E.length ≤ 1000) :
    Calls Tryz.prog 178 #[v, .int .i64 (h : Int)] w (qqs (wrs E) h w) := by
  have HSORT : Hid qmk := hsort
  clear hsort
  obtain ⟨N, HN⟩ : ∃ N, Hid (E.length = N) := ⟨_, rfl⟩
  obtain ⟨p, cp, rfl, HP⟩ : ∃ p cp, v = .slice p N cp ∧ Hid (0 < N → ∃ g o, p = some ⟨g, o, none⟩ ∧ ∀ (j : Nat) (x : Value), (qbg E)[j]? = some x → w.cell? ⟨g, o + j, none⟩ = some x) := by
    rw [← HN.out]
    obtain ⟨_, ⟨h0, a0, c0, rfl⟩ | ⟨g, o, cap, rfl, hc⟩⟩ := hv
    · exact ⟨a0, c0, by rw [h0], fun h => by omega⟩
    · exact ⟨_, cap, rfl, fun _ => ⟨g, o, rfl, hc⟩⟩
  rw [HN.out] at hl
  have HE := Lib.hid hE
  clear hv hE
  obtain ⟨i0, hi0, hz0, hz1, hz2⟩ := info_parts qxp
  have HI := Lib.hid hi0
  have HZ0 := Lib.hid hz0
  have HZ1 := Lib.hid hz1
  have HZ2 := Lib.hid hz2
  clear hi0 hz0 hz1 hz2
  have HNW := Lib.hid (heap_alloc_new w (.cells #[.int .i64 (h : Int)] 3))
  have HOM : Hid (((w.alloc (.cells #[.int .i64 (h : Int)] 3)).alloc (.map #[] 0)).ownsMap Tryz.prog 3 RV (w.heap.size + 1) 0 (.map [])) := by
    have := World.ownsMap_made (w.alloc (.cells #[.int .i64 (h : Int)] 3)) Tryz.prog 3 RV
    rw [show (w.alloc (.cells #[.int .i64 (h : Int)] 3)).heap.size = w.heap.size + 1 by simp] at this
    exact this
  have hmm := @run_makeMap Tryz.prog
  go_enter Tryz.func178, Tryz.ntmps178
  go_wp2
  clear hmm
  go_loopw [8, 15] (fun _ i wr => ∃ k : Nat, k ≤ N ∧ i = .int .i64 k ∧ Hid (wr.ownsMap Tryz.prog 3 RV (w.heap.size + 1) k (mapD (E.take k))) ∧ Hid (wr.heap[w.heap.size]? = some (.cells #[.int .i64 (h : Int)] 3 (0, 0))) ∧ Below w.heap.size w wr) (fun _ i _ => N - (intOf i).toNat)
  case atStart =>
    refine ⟨0, Nat.zero_le _, rfl, HOM, qad HNW.out _, ((Below.refl _ _).alloc (Nat.le_refl _) _).alloc (by simp) _⟩
  case round =>
    obtain ⟨k, hk, rfl, HM, HH, HB⟩ := hrel
    by_cases hlt : k < N
    · obtain ⟨g, o, rfl, hc⟩ := HP.out (by omega)
      have hkl : k < E.length := by rw [HN.out]; exact hlt
      obtain ⟨e0, e1, e2⟩ := qff E k hkl
      obtain ⟨x, Hx⟩ : ∃ x, Hid (E[k] = x) := ⟨E[k], rfl⟩
      rw [Hx.out] at e0 e1 e2
      obtain ⟨hxb, hxn, hxv, hxl⟩ := HE.out x (by rw [← Hx.out]; exact List.getElem_mem hkl)
      obtain ⟨gx, ox, cx, hxs⟩ : ∃ gx ox cx, x.v = .slice (some ⟨gx, ox, none⟩) 64 cx := by
        obtain ⟨_, ⟨h0, _⟩ | ⟨g, o, cap, h1, _⟩⟩ := hxv
        · omega
        · exact ⟨g, o, cap, by rw [h1, hxl]⟩
      rw [hxs] at e1
      rw [hxb] at e2
      have keep : ∀ {x : Addr} {y : Value}, w.cell? x = some y → wr.cell? x = some y := fun h => (HB.cell (block_lt_of_cell h)).trans h
      have c0 := keep (hc _ _ e0)
      have c1 := keep (hc _ _ e1)
      have c2 := keep (hc _ _ e2)
      rw [← Nat.add_assoc] at c1 c2
      obtain ⟨xn, Hxn⟩ : ∃ q, Hid (x.n = q) := ⟨_, rfl⟩
      rw [Hxn.out] at c0 hxn
      have HT : Hid (mapD (E.take (k + 1)) = (mapD (E.take k)).put (keyL xn) (.held (.slice (some ⟨gx, ox, none⟩) 64 cx))) := by
        show _ = _
        rw [← List.take_append_getElem hkl, qhy, Hx.out, Hxn.out, hxs]
      have hlt2 : (k : Int) < (N : Int) := by omega
      have hgl : g < wr.heap.size := block_lt_of_cell c0
      have hgn : ¬ g = wr.heap.size := by omega
      have hmx := HM.out.lt
      have hwz : w.heap.size < wr.heap.size := by omega
      have HMA : Hid ((wr.alloc (.cells #[.int .i64 (xn : Int), .slice (some ⟨gx, ox, none⟩) 64 cx, .bool false] 171)).ownsMap Tryz.prog 3 RV (w.heap.size + 1) k (mapD (E.take k))) := HM.out.alloc _
      have HBA : Hid (Below w.heap.size w (wr.alloc (.cells #[.int .i64 (xn : Int), .slice (some ⟨gx, ox, none⟩) 64 cx, .bool false] 171))) := HB.alloc HB.size _
      have HHA : Hid ((wr.alloc (.cells #[.int .i64 (xn : Int), .slice (some ⟨gx, ox, none⟩) 64 cx, .bool false] 171)).heap[w.heap.size]? = some (.cells #[.int .i64 (h : Int)] 3 (0, 0))) := qad HH.out _
      have HKEY : Hid (keyOf Tryz.prog 3 (.int .i64 (xn : Int)) = some (keyL xn)) := keyOf_int_mk (by kernel_rfl) (ybqh xn hxn)
      clear hc e0 e1 e2 keep hxs hxv hxl hmx hxb
      go_wp2_with (at_mapUpdate; refine wpList_mapUpdate_own _ rfl _ _ _ 93 rfl 3 38 qit ybow RV (w.heap.size + 1) k (mapD (E.take k)) rfl HMA.out (by unfold maxLen; omega) _ _ (keyL xn) rfl rfl HKEY.out _ [] rfl ?_; intro w1 hown1 hgrow1)
      have HM1 : Hid (w1.ownsMap Tryz.prog 3 RV (w.heap.size + 1) (k + 1) (mapD (E.take (k + 1)))) := by show World.ownsMap _ _ _ _ _ _ _; rw [HT.out]; exact hown1
      have HB1 : Hid (Below w.heap.size w w1) := HBA.out.grown hgrow1 HBA.out.size (by intro r hr; simp at hr; omega)
      have HH1 : Hid (w1.heap[w.heap.size]? = some (.cells #[.int .i64 (h : Int)] 3 (0, 0))) := (hgrow1.block _ (qab HHA.out) (by simp)).trans HHA.out
      clear hown1 hgrow1 c0 c1 c2
      go_wp2
      go_roundw
      case rel => exact ⟨k + 1, by omega, by go_num, HM1, HH1, HB1.out⟩
      case measure => simp [intOf]; omega
    · have HT : Hid (E.take k = E) := List.take_of_length_le (by rw [HN.out]; omega)
      rw [HT.out] at HM
      obtain ⟨r, Hr⟩ : ∃ r, Hid (wr.heap.size = r) := ⟨_, rfl⟩
      have hrw : w.heap.size < r := by rw [← Hr.out]; exact qab HH.out
      go_wp2_with (at_range; refine wpList_range_own _ rfl _ 93 rfl 3 38 qit ybow RV (w.heap.size + 1) k (mapD E) rfl HM.out ?_; intro w0 hrg0 hg0 hs0)
      rw [Hr.out] at hrg0 hs0 ⊢
      have HR0 := Lib.hid hrg0
      have HB0 : Hid (Below w.heap.size w w0) := HB.grown hg0 HB.size (by simp)
      have HH0 : Hid (w0.heap[w.heap.size]? = some (.cells #[.int .i64 (h : Int)] 3 (0, 0))) := (hg0.block _ (qab HH.out) (by simp)).trans HH.out
      have HMO := Lib.hid (ybnn E)
      have HR256 := Lib.hid (ybxu fun x hx => (HE.out x hx).2.1)
      clear hrg0 hg0 hs0 HB hlt hk
      go_frame
      go_loopw [9] (fun v ws => ∃ (left : Lit → Bool) (cnt : Nat) (O : List Rk), Hid (ws.ranges Tryz.prog 3 RV (w.heap.size + 1) r k (mapD E) left cnt) ∧ Hid (ws.ownsRow (w.heap.size + 1) 171 3 v O.length (O.flatMap encK)) ∧ Hid (qlh (wrs E) (w.heap.size + 1) ws left O) ∧ Hid (ws.heap[w.heap.size]? = some (.cells #[.int .i64 (h : Int)] 3 (0, 0))) ∧ Hid (Below w.heap.size w ws)) (fun _ ws => ws.rangeLeft (w.heap.size + 1) r)
      case atStart =>
        exact ⟨_, _, [], HR0, World.ownsRow_nil _ _ _ _, qlh.start _ _ _ _ (fun n D hn => by rw [HMO.out.there n, hn]; rfl), HH0, HB0⟩
      case round =>
        obtain ⟨left, cnt, O, HR, HO, HOK, HHs, HBs⟩ := hrel
        go_wp2_with (at_next; refine wpList_next_ranges (α := Int) (β := Value) _ rfl _ rfl 3 qit RV (fun x => .int .i64 x) (fun c => c) ybxs (fun v y _ => ⟨v, rfl⟩) (w.heap.size + 1) r k (mapD E) left cnt rfl HR.out ?_ ?_)
        · intro _ hl0
          have HL0 := Lib.hid hl0
          clear hl0
          have hO256 := ybao HOK.out
          have HS5 := Lib.hid (HSORT.out w.heap.size h (w.heap.size + 1) u9 O _ hh HO.out HHs.out (by omega))
          go_wp2_with fail
          refine HS5.out.mono ?_
          rintro e w5 ⟨rfl, O', hp, hs, ho5, hg5⟩
          have hne : u9.ownBlock ≠ some w.heap.size := qdr HO.out HHs.out (by decide)
          have HH5 : Hid (w5.heap[w.heap.size]? = some (.cells #[.int .i64 (h : Int)] 3 (0, 0))) := (hg5.block _ (qab HHs.out) (fun e => hne e.symm)).trans HHs.out
          have hok5 : qlh (wrs E) (w.heap.size + 1) w5 left O := HOK.out.keep fun i c _ hi => hg5.block i (qab hi) (fun e => qdr HO.out hi (by decide) e.symm)
          have hfin := ybua hh HR256.out HOK.out HL0.out hp hs
          have hlt5 : ∀ x ∈ O', x.1 < 256 := fun x hx => (hok5.el x (hp.mem_iff.1 hx)).1
          have hown : qem w5 (w.heap.size + 1) u9 (emit (qdb (wrs E) h)) := by
            refine ⟨O'.map (toRq (wrs E)), by rw [ybpv, hfin], by rw [qvv hlt5, List.length_map]; exact ho5, fun x hx => ?_⟩
            obtain ⟨y, hy, rfl⟩ := List.mem_map.1 hx
            obtain ⟨h1, D, cur, h2, h3, h4, h5, h6⟩ := hok5.el y (hp.mem_iff.1 hy)
            have e : (toRq (wrs E) y).D = D := by show (qex (wrs E) y.1).getD [] = D; rw [h2]; rfl
            exact Or.inr ⟨rfl, h1, by rw [e]; exact h3, y.2.1, y.2.2, cur, rfl, h4, h5, by rw [e]; exact h6⟩
          have HOWN := Lib.hid hown
          have HB5 : Hid (Below w.heap.size w w5) := HBs.out.grown hg5 HBs.out.size (by intro q hq; have := (HO.out.lt q hq).1; omega)
          obtain ⟨q5, cp5, hv5, hq5⟩ := qar ho5
          have hlen5 : O'.length ≤ 256 := by rw [hp.length_eq]; exact hO256
          have HFIN := Lib.hid hfin
          have HLT5 := Lib.hid hlt5
          obtain ⟨M, HM5⟩ : ∃ M, Hid (O'.length = M) := ⟨_, rfl⟩
          rw [HM5.out] at hv5 hlen5 hq5
          have HQ5 := Lib.hid hq5
          have hz5 := qab HH5.out
          clear hp hs ho5 hg5 hne hok5 hfin hlt5 hown hq5
          by_cases hM0 : M = 0
          · have HHD : Hid (qjv (wrs E) h = h) := by
              show _ = _
              unfold qjv
              rw [← HFIN.out]
              have : O' = [] := List.length_eq_zero_iff.1 (by rw [HM5.out]; exact hM0)
              rw [this]
              rfl
            subst hM0
            have k0 := cell_of_row w5 _ 0 _ _ _ HH5.out
            subst hv5
            go_wp2
            go_quiet (fail)
            go_wp2
            go_ret2
            unfold qqs
            rw [HHD.out]
            refine ⟨_, rfl, (HOWN.out.below (qmm (Below.refl _ _) _)).mono (by omega), qmm HB5.out _⟩
          · obtain ⟨g5, rfl, _, hc5⟩ := HQ5.out (by omega)
            have hml : M - 1 < O'.length := by rw [HM5.out]; omega
            obtain ⟨x, Hx⟩ : ∃ x, Hid (O'[M - 1] = x) := ⟨O'[M - 1], rfl⟩
            have hx256 : x.1 < 256 := HLT5.out x (by rw [← Hx.out]; exact List.getElem_mem hml)
            have hcx : w5.cell? ⟨g5, (M - 1) * 3, none⟩ = some (.int .i64 (x.1 : Int)) := hc5 _ _ (by
              rw [← qvv (R := wrs E) HLT5.out]
              have := (qff (O'.map (toRq (wrs E))) (M - 1) (by rw [List.length_map]; exact hml)).1
              rw [this, List.getElem_map, Hx.out]
              rfl)
            have HHD : Hid (qjv (wrs E) h = x.1) := by
              show _ = _
              unfold qjv
              rw [← HFIN.out, List.getLast?_map, List.getLast?_eq_getElem?, HM5.out, List.getElem?_eq_getElem hml, Hx.out]
              rfl
            obtain ⟨xn, Hxn⟩ : ∃ q, Hid (x.1 = q) := ⟨_, rfl⟩
            rw [Hxn.out] at hcx hx256 HHD
            have k0 := cell_of_row w5 _ 0 _ _ _ HH5.out
            have z0 : w5.frozen? ⟨w.heap.size, 0, none⟩ = false := by simp [World.frozen?, HH5.out]
            have HST : Hid (qem (w5.setCell ⟨w.heap.size, 0, none⟩ (.int .i64 (xn : Int))) (w.heap.size + 1) (.slice (some ⟨g5, 0, none⟩) M cp5) (emit (qdb (wrs E) h))) := by
              have h1 := HOWN.out
              rw [hv5] at h1
              exact h1.keeps (F := fun i => i = w.heap.size) (qac.setCell (by rfl) _) (fun i hi _ e => by omega)
            have HBS : Hid (Below w.heap.size w (w5.setCell ⟨w.heap.size, 0, none⟩ (.int .i64 (xn : Int)))) := HB5.out.setCell (Nat.le_refl _) _
            subst hv5
            have p1 : IntKind.i64.wrap ((M : Int) - 1) = (M : Int) - 1 := IntWalk.i64_in _ (by omega)
            have p2 : ((M : Int) - 1).toNat = M - 1 := by omega
            have p3 : 0 ≤ (M : Int) - 1 := by omega
            have p4 : (M : Int) - 1 < (M : Int) := by omega
            have p5 : 1 ≤ (M : Int) := by omega
            clear hc5 hM0
            go_wp2
            go_quiet (fail)
            go_wp2
            go_ret2
            unfold qqs
            rw [HHD.out]
            refine ⟨_, rfl, (HST.out.below (qmm (Below.refl _ _) _)).mono (by omega), qmm HBS.out _⟩
        · intro x c kl y ps w1 cnt1 hkey hlk hRv hat hrg1 hlt1 hg1 hs1 hen
          obtain ⟨x', hx', rfl, _⟩ := Maps.keyOf_int_inv (q := .i64) (by kernel_rfl) hkey
          have hxx : x' = x := by injection hx' with _ h; exact h.symm
          subst hxx
          have hy : y = .held c := by unfold RV at hRv; injection hRv with h; injection h with h _; exact h.symm
          subst hy
          obtain ⟨rq, hrq, hkl, hat2, hlast⟩ := HMO.out.back _ (has_true_of_atKey hat)
          have hxn : x' = (rq.n : Int) := by unfold keyL at hkl; injection hkl with _ h
          have hcv : c = rq.v := by
            have h1 := hat .nil
            rw [hat2 .nil] at h1
            injection h1 with h1
            exact h1.symm
          subst hxn hcv
          obtain ⟨_, hxn, hxv, hxl⟩ := HE.out rq hrq
          obtain ⟨gx, ox, cx, hxs⟩ : ∃ gx ox cx, rq.v = .slice (some ⟨gx, ox, none⟩) 64 cx := by
            obtain ⟨_, ⟨h0, _⟩ | ⟨g, o, cap, h1, _⟩⟩ := hxv
            · omega
            · exact ⟨g, o, cap, by rw [h1, hxl]⟩
          have HR1 := Lib.hid hrg1
          obtain ⟨ob, hob, hobn⟩ := ybav HR.out
          have HB1 : Hid (Below w.heap.size w w1) := HBs.out.grown hg1 HBs.out.size (by intro q hq; simp at hq; omega)
          have HO1 : Hid (w1.ownsRow (w.heap.size + 1) 171 3 u9 O.length (O.flatMap encK)) := qch HO.out fun b hb => hg1.block b (HO.out.lt b hb).2 (by
            rw [← hb]
            exact fun e => (ybaw HO.out HR.out).2 e.symm)
          have HOK1 : Hid (qlh (wrs E) (w.heap.size + 1) w1 left O) := HOK.out.keep fun i c _ hi => hg1.block i (qab hi) (by
            intro e
            injection e with e
            subst e
            rw [hob] at hi
            injection hi with hi
            exact hobn _ _ _ hi)
          have HH1 : Hid (w1.heap[w.heap.size]? = some (.cells #[.int .i64 (h : Int)] 3 (0, 0))) := (hg1.block _ (qab HHs.out) (by intro e; injection e with e; omega)).trans HHs.out
          have HCL := Lib.hid (ybri rq.v rq.D w1 (qah.below hxv HB1.out) hxl)
          have hO256 := ybao HOK.out
          have HLK := Lib.hid hlk
          have HLAST := Lib.hid hlast
          have HXL := Lib.hid hxl
          have HLT := Lib.hid hlt1
          rw [hxs] at hen HCL
          obtain ⟨xn, Hxn⟩ : ∃ q, Hid (rq.n = q) := ⟨_, rfl⟩
          rw [Hxn.out] at hen hxn
          obtain ⟨ON, HON⟩ : ∃ q, Hid (O.length = q) := ⟨_, rfl⟩
          rw [HON.out] at HO1 hO256
          clear hkey hlk hRv hat hrg1 hlt1 hg1 hs1 hkl hat2 hlast hxv hxl hxs hob hobn hrq
          go_wp2_with (first
            | (go_at_call 98; refine HCL.out.mono ?_; rintro e w2 ⟨v2, rfl, g2, cap2, cur2, rfl, hg2, hh2, ht2, hb2⟩
               have HO2 : Hid (∀ o, (w2.alloc o).ownsRow (w.heap.size + 1) 171 3 u9 ON (O.flatMap encK)) := fun o => (qap HO1.out hb2).alloc o
               have HB2 : Hid (Below w.heap.size w w2) := HB1.out.trans (hb2.mono HB1.out.size)
               have hz2 : w.heap.size < w2.heap.size := Nat.lt_of_lt_of_le (qab HH1.out) hb2.size
               have HH2 : Hid (w2.heap[w.heap.size]? = some (.cells #[.int .i64 (h : Int)] 3 (0, 0))) := qaa hb2 HH1.out
               have HBL := Lib.hid hb2
               have HG2 := Lib.hid (And.intro hg2 (And.intro hh2 ht2))
               clear hb2 hg2 hh2 ht2)
            | (at_builtin; refine wpList_append_own _ rfl _ _ 167 rfl (w.heap.size + 1) 171 i0 (.agg #[.int .i64 0, .slice none 0 0, .bool false]) 3 40 ybug HI.out HZ0.out HZ1.out HZ2.out rfl (by decide) _ _ _ rfl (HO2.out _) ⟨w2.heap.size, 0, none⟩ 1 1 [.int .i64 (xn : Int), .slice (some ⟨g2, 0, none⟩) 64 cap2, .bool false] rfl rfl (fun j u hu => qhz _ #[.int .i64 (xn : Int), .slice (some ⟨g2, 0, none⟩) 64 cap2, .bool false] _ j u hu) (fun u hu => by simp at hu; rcases hu with rfl | rfl | rfl <;> rfl) (by unfold maxLen; omega) (by omega) (by simp; omega) ?_; intro v3 w3 hown3 hgrow3 _))
          have HG := HG2.out
          have HNEW : Hid (w3.ownsRow (w.heap.size + 1) 171 3 v3 (O ++ [(xn, g2, cap2)]).length ((O ++ [(xn, g2, cap2)]).flatMap encK)) := by
            show World.ownsRow _ _ _ _ _ _ _
            rw [ybcs, List.length_append, HON.out]
            have e : encK (xn, g2, cap2) = [.int .i64 (xn : Int), .slice (some ⟨g2, 0, none⟩) 64 cap2, .bool false] := by
              show [_, _, _] = _
              rw [Nat.mod_eq_of_lt hxn]
            rw [e]
            exact hown3
          have hneb := ybaw (HO2.out (.cells #[.int .i64 (xn : Int), .slice (some ⟨g2, 0, none⟩) 64 cap2, .bool false] 171)) ((HR1.out.kept (qln HBL.out) (by simp) (by simp)).alloc (.cells #[.int .i64 (xn : Int), .slice (some ⟨g2, 0, none⟩) 64 cap2, .bool false] 171))
          have HR3 : Hid (w3.ranges Tryz.prog 3 RV (w.heap.size + 1) r k (mapD E) (fun z => left z && !z.sameKey (keyL xn)) cnt1) := by
            have := ((HR1.out.kept (qln HBL.out) (by simp) (by simp)).alloc (.cells #[.int .i64 (xn : Int), .slice (some ⟨g2, 0, none⟩) 64 cap2, .bool false] 171)).kept hgrow3 hneb.1 hneb.2
            rw [← Hxn.out]
            exact this
          have hnt : ∀ i c, (w2.alloc (.cells #[.int .i64 (xn : Int), .slice (some ⟨g2, 0, none⟩) 64 cap2, .bool false] 171)).heap[i]? = some (.cells c 5 (0, 0)) → some i ≠ u9.ownBlock := fun i c hi e => qdr (HO2.out _) hi (by decide) e.symm
          have HOK3 : Hid (qlh (wrs E) (w.heap.size + 1) w3 (fun z => left z && !z.sameKey (keyL xn)) (O ++ [(xn, g2, cap2)])) := by
            have h1 : qlh (wrs E) (w.heap.size + 1) w3 left O := HOK1.out.keep fun i c _ hi => by
              have h2 := qaa HBL.out hi
              have h3 := qad h2 (.cells #[.int .i64 (xn : Int), .slice (some ⟨g2, 0, none⟩) 64 cap2, .bool false] 171)
              exact (hgrow3.block i (qab h3) (hnt i c h3)).trans (h3.trans hi.symm)
            have h4 := qad HG.2.1 (.cells #[.int .i64 (xn : Int), .slice (some ⟨g2, 0, none⟩) 64 cap2, .bool false] 171)
            have hl1 := qab HH1.out
            exact h1.step xn g2 cap2 rq.D cur2 (by rw [← Hxn.out]; exact HLK.out) hxn (by rw [← Hxn.out]; exact HLAST.out) HXL.out ⟨by have := HG.1.1; omega, HG.1.2⟩ ((hgrow3.block g2 (qab h4) (hnt g2 cur2 h4)).trans h4) HG.2.2
          have HH3 : Hid (w3.heap[w.heap.size]? = some (.cells #[.int .i64 (h : Int)] 3 (0, 0))) := by
            have h4 := qad HH2.out (.cells #[.int .i64 (xn : Int), .slice (some ⟨g2, 0, none⟩) 64 cap2, .bool false] 171)
            exact (hgrow3.block _ (qab h4) (fun e => qdr (HO2.out _) h4 (by decide) e.symm)).trans h4
          have HB3 : Hid (Below w.heap.size w w3) := (HB2.out.alloc HB2.out.size _).grown hgrow3 (by simp; omega) (by intro q hq; have := ((HO2.out (.cells #[.int .i64 (xn : Int), .slice (some ⟨g2, 0, none⟩) 64 cap2, .bool false] 171)).lt q hq).1; omega)
          clear hown3 hgrow3 hneb hnt hen HG
          go_wp2
          go_roundw
          case rel => exact ⟨_, cnt1, _, HR3, HNEW, HOK3, HH3, HB3⟩
          case measure => rw [HR3.out.left_eq, HR.out.left_eq]; exact HLT.out
end Go.Proofs.YtpoglnpjadmbpaaGreatDoor
namespace Go.Proofs.YtpoglnpjadmbpaaGreatDoor
open Go.RowKit
def qgd (w : World) (v : Value) (E : List Rq) : Prop := ∃ a cap, v = .slice a E.length cap ∧ E.length ≤ cap ∧ cap ≤ maxLen ∧ (0 < E.length → ∃ g o, a = some ⟨g, o, none⟩ ∧ ∀ (j : Nat) (x : Value), (qbg E)[j]? = some x → w.cell? ⟨g, o + j, none⟩ = some x)
theorem qgd.row {w : World} {v : Value} {E : List Rq} (h : qgd w v E) : qah w v 3 E.length (qbg E) := by
 obtain ⟨a, cap, rfl, h1, h2, h3⟩ := h
 refine ⟨qie E, ?_⟩
 rcases Nat.eq_zero_or_pos E.length with e | e
 ·exact Or.inl ⟨e, a, cap, by rw [e]⟩
 ·obtain ⟨g, o, rfl, hc⟩ := h3 e
  exact Or.inr ⟨g, o, cap, rfl, hc⟩
theorem qgd.below {w w' : World} {v : Value} {E : List Rq} (h : qgd w v E) (hb : Below w.heap.size w w') : qgd w' v E := by
 obtain ⟨a, cap, rfl, h1, h2, h3⟩ := h
 refine ⟨a, cap, rfl, h1, h2, fun h0 => ?_⟩
 obtain ⟨g, o, rfl, hc⟩ := h3 h0
 exact ⟨g, o, rfl, fun j x hx => (hb.cell (p := ⟨g, o + j, none⟩) (block_lt_of_cell (hc j x hx))).trans (hc j x hx)⟩
theorem qgd.of_owns {w : World} {base : Nat} {v : Value} {E : List Rq} (h : w.ownsRow base 171 3 v E.length (qbg E)) : qgd w v E := by
 obtain ⟨q, cap, hv, hq⟩ := qar h
 obtain ⟨_, ⟨rfl, h0⟩ | ⟨g, cap', cur, rfl, hg, hh, hc, hm, _⟩⟩ := h
 ·exact ⟨none, 0, by rw [h0], by omega, by unfold maxLen; omega, fun h => by omega⟩
 ·refine ⟨_, cap', rfl, hc, hm, fun h0 => ?_⟩
  obtain ⟨g', e, _, hc2⟩ := hq h0
  injection hv with e1 _ _
  rw [e] at e1
  injection e1 with e1
  injection e1 with e1 _ _
  subst e1
  exact ⟨g, 0, rfl, fun j x hx => by rw [Nat.zero_add]; exact hc2 j x hx⟩
theorem qgd.take {w : World} {a : Option Addr} {n cap : Nat} {E : List Rq} (h : qgd w (.slice a n cap) E) {k : Nat} (hk : k ≤ n) : qgd w (.slice a k cap) (E.take k) := by
 obtain ⟨a', cap', hv, h1, h2, h3⟩ := h
 cases hv
 have hl : (E.take k).length = k := by rw [List.length_take]; omega
 refine ⟨a, cap, by rw [hl], by rw [hl]; omega, h2, fun h0 => ?_⟩
 rw [hl] at h0
 obtain ⟨g, o, rfl, hc⟩ := h3 (by omega)
 refine ⟨g, o, rfl, fun j x hx => hc j x ?_⟩
 rw [← (qpi E k).1, List.getElem?_take] at hx
 split at hx
 ·exact hx
 ·cases hx
theorem qgd.drop {w : World} {g o n cap : Nat} {E : List Rq} (h : qgd w (.slice (some ⟨g, o, none⟩) n cap) E) {k : Nat} (hk : k ≤ n) : qgd w (.slice (some ⟨g, o + k * 3, none⟩) (n - k) (cap - k)) (E.drop k) := by
 obtain ⟨a', cap', hv, h1, h2, h3⟩ := h
 cases hv
 have hl : (E.drop k).length = E.length - k := List.length_drop
 refine ⟨_, _, by rw [hl], by rw [hl]; omega, by omega, fun h0 => ?_⟩
 rw [hl] at h0
 obtain ⟨g', o', e, hc⟩ := h3 (by omega)
 cases e
 refine ⟨g, _, rfl, fun j x hx => ?_⟩
 rw [← (qpi E k).2, List.getElem?_drop] at hx
 rw [Nat.add_assoc]
 exact hc _ x hx
theorem qgd.none {w : World} {a : Option Addr} {cap : Nat} (h : cap ≤ maxLen) : qgd w (.slice a 0 cap) [] := ⟨a, cap, rfl, Nat.zero_le _, h, fun h => by simp at h⟩
theorem qcw {w : World} {ops : Array Oper} {rest : List Oper} {o : Oper} {a : Act} {Q : Exit → Act → World → Prop} (hgd : o.guard = none) (s x : Operand)
  (ho : o.op = .call { callee := .builtin .append, args := #[s, x], argTypes := #[167, 167] }) (v pv : Value) (base base2 : Nat) (O L : List Rb) (hs : a.eval s = v) (hx : a.eval x = pv)
  (hO : qem w base v O) (hP : qem w base2 pv L) (hb : base ≤ base2) (hb2 : base ≤ w.heap.size) (hlen : O.length + L.length ≤ 1000000)
  (h : ∀ v' w', qem w' base v' (O ++ L) → w.grownBy w' v.ownBlock → wpList Tryz.prog ops Q rest (a.put o.dst v') w') : wpList Tryz.prog ops Q (o :: rest) a w := by
 obtain ⟨i0, hi0, hz0, hz1, hz2⟩ := info_parts qxp
 obtain ⟨E, hE, h1, h2⟩ := hO
 obtain ⟨E2, hE2, h3, h4⟩ := hP
 have hl1 := ybei hE
 have hl2 := ybei hE2
 have h3' := h3
 obtain ⟨_, ⟨rfl, h0⟩ | ⟨g, cap, cur, rfl, hg, hh, hc, hm, hsz, ht⟩⟩ := h3
 ·have e2 : E2 = [] := List.length_eq_zero_iff.1 h0
  subst e2
  refine wpList_append_own_none hgd s x 167 ho base 171 i0 3 ybug hi0 v E.length (qbg E) hs h1 hx (h v w ?_ ⟨rfl, rfl, rfl, Nat.le_refl _, fun _ _ _ => rfl⟩)
  refine ⟨E, ?_, h1, h2⟩
  rw [hE]
  have : L = [] := by rw [← hE2]; rfl
  rw [this, List.append_nil]
 ·refine wpList_append_own w hgd s x 167 ho base 171 i0 (.agg #[.int .i64 0, .slice none 0 0, .bool false]) 3 40 ybug hi0 hz0 hz1 hz2 rfl (by decide) v E.length (qbg E) hs h1 ⟨g, 0, none⟩ E2.length cap (qbg E2) hx (qie E2) (fun j u hu => ?_) (ybul h4) (by unfold maxLen; omega) (by omega) hb2 fun v' w' hown hgrow _ => h v' w' ?_ hgrow
  ·have hadd : (⟨g, 0, none⟩ : Addr).add j = ⟨g, j, none⟩ := by unfold Addr.add; split <;> simp_all
   rw [hadd, cell_of_row _ _ _ _ _ _ hh]
   rw [← ht, List.getElem?_take] at hu
   split at hu
   ·simpa using hu
   ·cases hu
  ·have hkeep : ∀ (i : Nat) (c : Array Value), w.heap[i]? = some (.cells c 5 (0, 0)) → w'.heap[i]? = w.heap[i]? := fun i c hi => hgrow.block i (qab hi) (fun e => qdr h1 hi (by decide) e.symm)
   refine ⟨E ++ E2, by rw [List.map_append, hE, hE2], by rw [List.length_append, qgk]; exact hown, fun y hy => ?_⟩
   rcases List.mem_append.1 hy with hy | hy
   ·exact (h2 y hy).keep fun i c _ hi => hkeep i c hi
   ·exact ((h4 y hy).mono hb).keep fun i c _ hi => hkeep i c hi
theorem ybks {E : List Rq} (h : E.findIdx? (fun x => x.b) = none) : barI E = -1 ∧ (∀ x ∈ E, x.b = false) ∧ E.map rab = emit (wrs E) := by
 have h1 : ∀ x ∈ E, x.b = false := fun x hx => by rw [List.findIdx?_eq_none_iff] at h; exact h x hx
 refine ⟨by unfold barI; rw [h], h1, ?_⟩
 unfold emit wrs
 rw [List.map_map]
 refine List.map_congr_left fun x hx => ?_
 show (x.n, x.D, x.b) = (x.n, x.D, false)
 rw [h1 x hx]
theorem ybkt {E : List Rq} {k : Nat} (h : E.findIdx? (fun x => x.b) = some k) : ∃ hk : k < E.length, barI E = (k : Int) ∧ (∀ x ∈ E.take k, x.b = false) ∧ E.map rab = emit (wrs (E.take k)) ++ (E[k].n, E[k].D, true) :: (E.drop (k + 1)).map rab := by
 have h0 := h
 rw [List.findIdx?_eq_some_iff_getElem] at h
 obtain ⟨hk, h1, h2⟩ := h
 have h3 : ∀ x ∈ E.take k, x.b = false := fun x hx => by
  obtain ⟨j, hj, rfl⟩ := List.getElem_of_mem hx
  rw [List.getElem_take]
  have hjk : j < k := by rw [List.length_take] at hj; omega
  simpa using h2 j hjk
 refine ⟨hk, by unfold barI; rw [h0], h3, ?_⟩
 conv => lhs; rw [← List.take_append_drop k E, List.drop_eq_getElem_cons hk, List.map_append, List.map_cons]
 congr 1
 ·unfold emit wrs
  rw [List.map_map]
  refine List.map_congr_left fun x hx => ?_
  show (x.n, x.D, x.b) = (x.n, x.D, false)
  rw [h3 x hx]
 ·congr 1
  show (E[k].n, E[k].D, E[k].b) = _
  rw [h1]
theorem ybfc (P : List Wr) : (emit P).length = P.length := by simp [emit]
theorem ybqk (E : List Rq) : (wrs E).length = E.length := by simp [wrs]
theorem ybbb {w : World} {E : List Rq} (h : ∀ x ∈ E, RqOk w x) (hb : ∀ x ∈ E, x.b = false) : ∀ x ∈ E, x.b = false ∧ x.n < 256 ∧ qae w x.v x.D ∧ x.D.length = 64 := by
 intro x hx
 have h1 := hb x hx
 rcases h x hx with ⟨h2, _⟩ | h2
 ·rw [h1] at h2; cases h2
 ·exact h2
theorem qvr (w : World) (base : Nat) (h : base ≤ w.heap.size) : qem (w.alloc (.cells #[.int .i64 0, .slice none 0 0, .bool true] 171)) base (.slice (some ⟨w.heap.size, 0, none⟩) 1 1) [barR] :=
 ⟨[⟨0, .slice none 0 0, [], true⟩], rfl, ⟨rfl, Or.inr ⟨w.heap.size, 1, _, rfl, h, heap_alloc_new w _, Nat.le_refl _, by unfold maxLen; omega, rfl, rfl⟩⟩, fun x hx => by
  simp at hx
  subst hx
  exact Or.inl ⟨rfl, rfl, rfl, rfl⟩⟩
theorem ybja (h : Nat) (hh : h < 256) : qct [] h [] = [] := by
 have h2 := qou [] h hh
 exact List.length_eq_zero_iff.1 (by simpa using h2)
def qwa (L : List Rb) (h : Nat) (w : World) (e : Ending) (w' : World) : Prop :=
 ∃ v', e = .returned (.tuple #[v', .int .i64 0]) ∧ qem w' w.heap.size v' (qft L h) ∧ Below w.heap.size w w'
set_option maxRecDepth 100000 in
theorem yboa (hsort : qmk) (v : Value) (E : List Rq) (h : Nat) (hh : h < 256) (w : World) (hv : qgd w v E) (hE : ∀ x ∈ E, RqOk w x) (hl : E.length ≤ 100) :
    Calls Tryz.prog 151 #[v, .int .i64 (h : Int)] w (qwa (E.map rab) h w) := by
  have HSORT : Hid qmk := hsort
  clear hsort
  have HV := Lib.hid hv
  have HE := Lib.hid hE
  have HR := Lib.hid (fun W (hW : Below w.heap.size w W) => ybuk v E W (qah.below hv.row hW) (fun x hx => (hE x hx).below hW) hl)
  have b1 : decide ((h : Int) < 0) = false := by rw [decide_eq_false_iff_not]; omega
  have b2 : decide ((256 : Int) ≤ (h : Int)) = false := by rw [decide_eq_false_iff_not]; omega
  have b3 : ¬ (256 : Int) ≤ (h : Int) := by omega
  have b4 : ¬ 256 ≤ h := by omega
  clear hv hE
  go_enter Tryz.func151, Tryz.ntmps151
  go_wp2_with fail
  refine (HR.out _ (Below.refl _ _)).mono ?_
  rintro e w1 ⟨rfl, hb1⟩
  have HB1 := Lib.hid hb1
  clear hb1 b1 b2 b3 b4
  go_wp2
  obtain ⟨i0, hi0, hz0, hz1, hz2⟩ := info_parts qxp
  have HI := Lib.hid hi0
  have HZ0 := Lib.hid hz0
  have HZ1 := Lib.hid hz1
  have HZ2 := Lib.hid hz2
  clear hi0 hz0 hz1 hz2
  go_loopw [0, 1, 7] (fun lv hd o wr => ∃ (E' : List Rq) (h' : Nat) (O : List Rb), Hid (qgd w lv E') ∧ Hid (∀ x ∈ E', x ∈ E) ∧ E'.length + O.length ≤ 100 ∧ hd = .int .i64 (h' : Int) ∧ h' < 256 ∧ Hid (qem wr w.heap.size o O) ∧ Hid (O ++ qct [] h' (E'.map rab) = qft (E.map rab) h) ∧ Hid (Below w.heap.size w wr)) (fun lv _ _ _ => match lv with | .slice _ n _ => n | _ => 0)
  case atStart =>
    exact ⟨E, h, [], HV, fun x hx => hx, by simp; exact hl, rfl, hh, ⟨[], rfl, World.ownsRow_nil _ _ _ _, fun x hx => by simp at hx⟩, rfl, HB1⟩
  case round =>
    obtain ⟨E', h', O, HV', HS, hlen, rfl, hh', HO, HEQ, HB⟩ := hrel
    obtain ⟨a, cap, hlv, hc1, hc2, hc3⟩ := HV'.out
    obtain ⟨n, HN⟩ : ∃ n, Hid (E'.length = n) := ⟨_, rfl⟩
    rw [HN.out] at hlv hc1 hlen hc3
    subst hlv
    have HC3 := Lib.hid hc3
    have HMX : Hid (cap ≤ maxLen) := hc2
    unfold maxLen at hc2
    clear hc3
    by_cases hn : 0 < n
    · obtain ⟨g, o, rfl, hcx⟩ := HC3.out hn
      clear hcx
      have HOK : Hid (∀ x ∈ E', RqOk w x) := fun x hx => HE.out x (HS.out x hx)
      have HBI := Lib.hid (ybqz _ E' _ (qah.below HV'.out.row HB.out) (fun x hx => (HOK.out x hx).below HB.out) (by rw [HN.out]; omega))
      have hzr := HB.out.size
      go_wp2_with fail
      refine HBI.out.mono ?_
      rintro e w2 ⟨rfl, hb2⟩
      have HB2 : Hid (Below w.heap.size w w2) := Below.step HB.out hb2
      have HO2 : Hid (qem w2 w.heap.size u7 O) := HO.out.below hb2
      have hz2 : w.heap.size ≤ w2.heap.size := HB2.out.size
      clear hb2
      cases hfi : E'.findIdx? (fun x => x.b) with
      | none =>
        obtain ⟨hbi, hnb, hem⟩ := ybks hfi
        have HBV := Lib.hid hbi
        have HPA := Lib.hid (ybgk HSORT.out _ E' h' hh' w2 (qah.below HV'.out.row HB2.out) (fun x hx => ybbb (fun y hy => (HOK.out y hy).below HB2.out) hnb x hx) (by rw [HN.out]; omega))
        unfold qqs at HPA
        have HEM := Lib.hid hem
        clear hfi hbi hnb hem
        rw [HBV.out]
        have HLP : Hid ((emit (qdb (wrs E') h')).length ≤ n) := by
          show _ ≤ _
          rw [ybfc, ← HN.out, ← ybqk]
          exact qke _ _ hh'
        have hlp := HLP.out
        have q1 : decide ((-1 : Int) < 0) = true := by decide
        have q2 : 0 ≤ (n : Int) := by omega
        have q3 : (n : Int) ≤ (cap : Int) := by omega
        have HFIN : Hid ((O ++ emit (qdb (wrs E') h')) ++ qct [] (qjv (wrs E') h') (([] : List Rq).map rab) = qft (E.map rab) h) := by
          have h1 := HEQ.out
          rw [HEM.out, qfd, List.nil_append] at h1
          show (O ++ _) ++ qct [] _ [] = _
          rw [ybja _ (qks _ _ hh'), List.append_nil]
          exact h1
        have hh3 := qks (wrs E') h' hh'
        clear HEQ HEM
        generalize emit (qdb (wrs E') h') = L at *
        generalize qjv (wrs E') h' = h3 at *
        by_cases hcap : cap = n
        all_goals
          try subst hcap
          go_wp2_with (first
            | (go_at_call 178; refine HPA.out.mono ?_; rintro e w3 ⟨pv, rfl, hp3, hb3⟩
               have HP3 := Lib.hid hp3
               have HO3 := Lib.hid (HO2.out.below hb3)
               have HB3 : Hid (Below w.heap.size w w3) := Below.step HB2.out hb3
               have hz3 := HB3.out.size
               clear hp3 hb3)
            | (at_builtin; refine qcw rfl _ _ rfl _ _ w.heap.size _ _ _ rfl rfl HO3.out HP3.out hz2 hz3 (by omega) ?_; intro v4 w4 hown4 hgrow4))
          have HO4 := Lib.hid hown4
          have HB4 : Hid (Below w.heap.size w w4) := HB3.out.grown hgrow4 hz3 (fun q hq => by
            obtain ⟨_, _, h1, _⟩ := HO3.out
            exact (h1.lt q hq).1)
          clear hown4 hgrow4
          go_wp2
          go_roundw
          case rel => exact ⟨[], h3, _, qgd.none (by unfold maxLen; omega), fun x hx => by simp at hx, by simp; omega, rfl, hh3, HO4, HFIN, HB4⟩
          case measure => simp; omega
      | some k =>
        obtain ⟨hkl, hbi, hnb, hem⟩ := ybkt hfi
        have HBV := Lib.hid hbi
        have hkn : k < n := by rw [← HN.out]; exact hkl
        have HVT : Hid (qgd w (.slice (some ⟨g, o, none⟩) k cap) (E'.take k)) := HV'.out.take (by omega)
        have htl : (E'.take k).length = k := by rw [List.length_take]; omega
        have HPA := Lib.hid (ybgk HSORT.out _ (E'.take k) h' hh' w2 (qah.below HVT.out.row HB2.out) (fun x hx => ybbb (fun y hy => (HOK.out y (List.mem_of_mem_take hy)).below HB2.out) hnb x hx) (by rw [htl]; omega))
        unfold qqs at HPA
        have HEM := Lib.hid hem
        have hlp : (emit (qdb (wrs (E'.take k)) h')).length ≤ k := by
          rw [ybfc]
          have h1 := qke (wrs (E'.take k)) h' hh'
          rw [ybqk, htl] at h1
          exact h1
        clear hfi hbi hnb hem htl
        rw [HBV.out]
        have q1 : decide ((k : Int) < 0) = false := by rw [decide_eq_false_iff_not]; omega
        have q2 : 0 ≤ (k : Int) := by omega
        have q3 : (k : Int) ≤ (cap : Int) := by omega
        have q4 : (k : Int) < (n : Int) := by omega
        have q5 : (k : Int) + 1 ≤ (n : Int) := by omega
        have q6 : (n : Int) ≤ (cap : Int) := by omega
        have q7 : IntKind.i64.wrap ((k : Int) + 1) = (k : Int) + 1 := IntWalk.i64_in _ (by omega)
        have q8 : ((k : Int) + 1).toNat = k + 1 := by omega
        have q9 : 0 ≤ (k : Int) + 1 := by omega
        have HFIN : Hid (((O ++ emit (qdb (wrs (E'.take k)) h')) ++ [barR]) ++ qct [] (qjv (wrs (E'.take k)) h') ((E'.drop (k + 1)).map rab) = qft (E.map rab) h) := by
          have h1 := HEQ.out
          rw [HEM.out, qic, List.nil_append] at h1
          show _ = _
          rw [← h1]
          simp
        have hh3 := qks (wrs (E'.take k)) h' hh'
        have HDR := Lib.hid (HV'.out.drop (k := k + 1) (by omega))
        have HDS : Hid (∀ x ∈ E'.drop (k + 1), x ∈ E) := fun x hx => HS.out x (List.mem_of_mem_drop hx)
        have hdl : (E'.drop (k + 1)).length = n - (k + 1) := by rw [List.length_drop, HN.out]
        clear HEQ HEM
        generalize emit (qdb (wrs (E'.take k)) h') = L at *
        generalize qjv (wrs (E'.take k)) h' = h3 at *
        have hol : (O ++ L).length + [barR].length ≤ 1000000 := by rw [List.length_append]; simp; omega
        have hol2 : (O ++ L ++ [barR]).length = O.length + L.length + 1 := by simp; omega
        by_cases hcap : cap = k + 1
        · have hn1 : n = k + 1 := by omega
          subst hcap
          subst hn1
          go_wp2_with (first
            | (go_at_call 178; refine HPA.out.mono ?_; rintro e w3 ⟨pv, rfl, hp3, hb3⟩
               have HP3 := Lib.hid hp3
               have HO3 := Lib.hid (HO2.out.below hb3)
               have HB3 : Hid (Below w.heap.size w w3) := Below.step HB2.out hb3
               have hz3 := HB3.out.size
               have tok1 : True := trivial
               clear hp3 hb3)
            | (at_builtin; have _t := tok1; refine qcw rfl _ _ rfl _ _ w.heap.size _ _ _ rfl rfl HO3.out HP3.out hz2 hz3 (by omega) ?_; intro v4 w4 hown4 hgrow4
               have HO4 := Lib.hid hown4
               have HB4 : Hid (Below w.heap.size w w4) := HB3.out.grown hgrow4 hz3 (fun q hq => by
                 obtain ⟨_, _, h1, _⟩ := HO3.out
                 exact (h1.lt q hq).1)
               have hz4 := HB4.out.size
               have tok2 : True := trivial
               clear hown4 hgrow4 tok1 _t)
            | (at_builtin; have _t := tok2; refine qcw rfl _ _ rfl _ _ w.heap.size w.heap.size _ _ rfl rfl (HO4.out.below ((Below.refl _ _).alloc (Nat.le_refl _) _)) (qvr w4 w.heap.size hz4) (Nat.le_refl _) (by simp; omega) hol ?_; intro v5 w5 hown5 hgrow5
               have HO5 := Lib.hid hown5
               have HB5 : Hid (Below w.heap.size w w5) := (HB4.out.alloc hz4 _).grown hgrow5 (by simp; omega) (fun q hq => by
                 obtain ⟨_, _, h1, _⟩ := HO4.out
                 exact (h1.lt q hq).1)
               clear hown5 hgrow5 tok2 _t))
          have he0 : E'.drop (k + 1) = [] := List.length_eq_zero_iff.1 (by rw [hdl]; omega)
          go_roundw
          case rel => exact ⟨E'.drop (k + 1), h3, _, by rw [he0]; exact qgd.none (by unfold maxLen; omega), HDS, by rw [hdl, hol2]; omega, rfl, hh3, HO5, HFIN, HB5⟩
          case measure => simp
        · go_wp2_with (first
            | (go_at_call 178; refine HPA.out.mono ?_; rintro e w3 ⟨pv, rfl, hp3, hb3⟩
               have HP3 := Lib.hid hp3
               have HO3 := Lib.hid (HO2.out.below hb3)
               have HB3 : Hid (Below w.heap.size w w3) := Below.step HB2.out hb3
               have hz3 := HB3.out.size
               have tok1 : True := trivial
               clear hp3 hb3)
            | (at_builtin; have _t := tok1; refine qcw rfl _ _ rfl _ _ w.heap.size _ _ _ rfl rfl HO3.out HP3.out hz2 hz3 (by omega) ?_; intro v4 w4 hown4 hgrow4
               have HO4 := Lib.hid hown4
               have HB4 : Hid (Below w.heap.size w w4) := HB3.out.grown hgrow4 hz3 (fun q hq => by
                 obtain ⟨_, _, h1, _⟩ := HO3.out
                 exact (h1.lt q hq).1)
               have hz4 := HB4.out.size
               have tok2 : True := trivial
               clear hown4 hgrow4 tok1 _t)
            | (at_builtin; have _t := tok2; refine qcw rfl _ _ rfl _ _ w.heap.size w.heap.size _ _ rfl rfl (HO4.out.below ((Below.refl _ _).alloc (Nat.le_refl _) _)) (qvr w4 w.heap.size hz4) (Nat.le_refl _) (by simp; omega) hol ?_; intro v5 w5 hown5 hgrow5
               have HO5 := Lib.hid hown5
               have HB5 : Hid (Below w.heap.size w w5) := (HB4.out.alloc hz4 _).grown hgrow5 (by simp; omega) (fun q hq => by
                 obtain ⟨_, _, h1, _⟩ := HO4.out
                 exact (h1.lt q hq).1)
               clear hown5 hgrow5 tok2 _t))
          go_roundw
          case rel => exact ⟨E'.drop (k + 1), h3, _, HDR, HDS, by rw [hdl, hol2]; omega, rfl, hh3, HO5, HFIN, HB5⟩
          case measure => simp; omega
    · have hn0 : n = 0 := by omega
      have he : E' = [] := List.length_eq_zero_iff.1 (by rw [HN.out]; exact hn0)
      have HF : Hid (O = qft (E.map rab) h) := by
        have h1 := HEQ.out
        rw [he] at h1
        show _ = _
        rw [← h1]
        have h2 := qou [] h' hh'
        have : qct [] h' [] = [] := List.length_eq_zero_iff.1 (by simpa using h2)
        show O = O ++ qct [] h' []
        rw [this, List.append_nil]
      subst hn0
      clear he hn
      go_wp2
      go_ret2
      refine ⟨_, rfl, ?_, HB.out⟩
      rw [← HF.out]
      exact HO.out
end Go.Proofs.YtpoglnpjadmbpaaGreatDoor
