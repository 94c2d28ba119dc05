/- inode.Unpack: the other way round. -/
import Derived.Test.YtneknlbmiofmlaaInode3
import Derived.Laws.Bits64b
namespace Go.Proofs.Ytneknlbmiofmlaa
open Go.RowKit

theorem or_nat (a b : Nat) (ha : a < 256) (hb : b < 256) : bits .or .i64 (a : Int) ((b : Int) * 256) = (a : Int) + (b : Int) * 256 := by
  have e0 : ((b : Int) * 256) = ((b * 256 : Nat) : Int) := by omega
  have h1 : (BitVec.ofInt 64 (a : Int)).toNat = a := by
    rw [BitVec.ofInt_natCast, BitVec.toNat_ofNat]; exact Nat.mod_eq_of_lt (by omega)
  have h2 : (BitVec.ofInt 64 ((b * 256 : Nat) : Int)).toNat = b * 256 := by
    rw [BitVec.ofInt_natCast, BitVec.toNat_ofNat]; exact Nat.mod_eq_of_lt (by omega)
  rw [e0]
  show IntKind.i64.wrap ((BitVec.ofInt 64 (a : Int) ||| BitVec.ofInt 64 ((b * 256 : Nat) : Int)).toNat : Int) = _
  have h3 : a ||| b * 256 = b * 256 + a := by
    have := Nat.shiftLeft_add_eq_or_of_lt (i := 8) (b := a) (by omega) b
    rw [Nat.shiftLeft_eq] at this
    rw [Nat.or_comm]
    exact this.symm
  rw [BitVec.toNat_or, h1, h2, h3, IntWalk.i64_in _ (by omega)]
  omega
theorem or_int (a b : Int) (ha : 0 ≤ a) (ha1 : a ≤ 255) (hb : 0 ≤ b) (hb1 : b ≤ 255) : bits .or .i64 a (b * 256) = a + b * 256 := by
  have := or_nat a.toNat b.toNat (by omega) (by omega)
  rw [Int.toNat_of_nonneg ha, Int.toNat_of_nonneg hb] at this
  exact this

/-- The part of the bytes that has the sectors. -/
def midB (bs : List Int) : List Int := (bs.drop 9).take 16
def ptsN (bs : List Int) : List Int := (PtsOf (midB bs)).1
def goodN (bs : List Int) : Prop := bs.length = 32 ∧ goodB (midB bs) ∧ rightN (bs.getD 0 0) (bs.getD 1 0 + bs.getD 2 0 * 256) (bs.getD 3 0) (bs.getD 4 0) (bs.getD 5 0 + bs.getD 6 0 * 256) (bs.getD 7 0) (bs.getD 8 0) (ptsN bs) = 0 ∧
  packN (bs.getD 0 0) (bs.getD 1 0 + bs.getD 2 0 * 256) (bs.getD 3 0) (bs.getD 4 0) (bs.getD 5 0 + bs.getD 6 0 * 256) (bs.getD 7 0) (bs.getD 8 0) (ptsN bs) = bs
def UnpNRes (bs : List Int) (w : World) (e : Ending) (w' : World) : Prop :=
  (goodN bs ∧ ∃ v, e = .returned (.tuple #[.agg #[.int .i64 (bs.getD 0 0), .int .i64 (bs.getD 1 0 + bs.getD 2 0 * 256), .int .i64 (bs.getD 3 0), .int .i64 (bs.getD 4 0), .int .i64 (bs.getD 5 0 + bs.getD 6 0 * 256), .int .i64 (bs.getD 7 0), .int .i64 (bs.getD 8 0), v], .int .i64 0]) ∧ IntsAt w' v (ptsN bs) ∧ Below w.heap.size w w') ∨
  (¬ goodN bs ∧ e = .returned (.tuple #[.agg #[.int .i64 0, .int .i64 0, .int .i64 0, .int .i64 0, .int .i64 0, .int .i64 0, .int .i64 0, .slice none 0 0], .int .i64 3]) ∧ Below w.heap.size w w')

set_option maxRecDepth 100000 in
set_option maxHeartbeats 1000000 in
theorem unpackN_short (v : Value) (bs : List Int) (w : World) (h : BytesAt w v bs) (hn : bs.length ≠ 32) (hl : bs.length ≤ 1000000) :
    Calls Try.prog 27 #[v] w (UnpNRes bs w) := by
  have _ := hl
  obtain ⟨N, HN⟩ : ∃ N, Hid (N = bs.length) := ⟨_, rfl⟩
  obtain ⟨q, cp, hu⟩ : ∃ p cp, v = .slice p N cp := by
    rw [HN.out]
    obtain ⟨_, ⟨h0, a0, c0, rfl⟩ | ⟨g, o, cap, rfl, hc⟩⟩ := h
    · exact ⟨a0, c0, by rw [h0]⟩
    · exact ⟨_, cap, rfl⟩
  subst hu
  rw [← HN.out] at hn hl
  have hn1 : ((N : Int) == 32) = false := by rw [beq_eq_false_iff_ne]; omega
  have hn2 : ((N : Int) != 32) = true := by simpa using (by omega : ¬ (N : Int) = 32)
  have HNN := Lib.hid hn
  clear h hn
  go_enter Try.func27, Try.ntmps27
  go_wp2
  refine bodyPost_ret (v := .tuple #[.agg #[.int .i64 0, .int .i64 0, .int .i64 0, .int .i64 0, .int .i64 0, .int .i64 0, .int .i64 0, .slice none 0 0], .int .i64 3]) (by simp [results, Try.results27, go_sem]) rfl (Or.inr ⟨fun hg => HNN.out (by rw [HN.out]; exact hg.1), rfl, ?_⟩)
  exact (Below.refl _ _).alloc (Nat.le_refl _) _

/-- Bytes are the same, or not. -/
def eqB (a b : List Int) : Bool := decide (a = b)
set_option maxHeartbeats 1000000 in
theorem equalBytes_dec (u v : Value) (a b : List Int) (w : World) (h1 : BytesAt w u a) (h2 : BytesAt w v b) (hab : a.length = b.length) (hl : a.length ≤ 1000000) :
    Calls Try.prog 23 #[u, v] w fun e w' => e = .returned (.bool (eqB a b)) ∧ Below w.heap.size w w' := by
  obtain ⟨N, HN⟩ : ∃ N, Hid (N = a.length) := ⟨_, rfl⟩
  have HNb : Hid (N = b.length) := by rw [HN.out]; exact hab
  obtain ⟨p, cp, hu, HP⟩ : ∃ p cp, u = .slice p N cp ∧ Hid (0 < N → ∃ g o, p = some ⟨g, o, none⟩ ∧ ∀ (j : Nat) (x : Value), (u8s a)[j]? = some x → w.cell? ⟨g, o + j, none⟩ = some x) := by
    rw [HN.out]
    obtain ⟨_, ⟨h0, a0, c0, rfl⟩ | ⟨g, o, cap, rfl, hc⟩⟩ := h1
    · exact ⟨a0, c0, by rw [h0], fun h => by omega⟩
    · exact ⟨_, cap, rfl, fun _ => ⟨g, o, rfl, hc⟩⟩
  obtain ⟨q, cq, hv, HQ⟩ : ∃ p cp, v = .slice p N cp ∧ Hid (0 < N → ∃ g o, p = some ⟨g, o, none⟩ ∧ ∀ (j : Nat) (x : Value), (u8s b)[j]? = some x → w.cell? ⟨g, o + j, none⟩ = some x) := by
    rw [HNb.out]
    obtain ⟨_, ⟨h0, a0, c0, rfl⟩ | ⟨g, o, cap, rfl, hc⟩⟩ := h2
    · exact ⟨a0, c0, by rw [h0], fun h => by omega⟩
    · exact ⟨_, cap, rfl, fun _ => ⟨g, o, rfl, hc⟩⟩
  subst hu hv
  rw [← HN.out] at hl
  clear h1 h2 hab
  go_enter Try.func23, Try.ntmps23
  go_wp2
  go_loopw [13] (fun i wr => ∃ k : Nat, k ≤ N ∧ i = .int .i64 k ∧ Hid (a.take k = b.take k) ∧ Below w.heap.size w wr) (fun i _ => N - (intOf i).toNat)
  case atStart => exact ⟨0, Nat.zero_le _, rfl, rfl, Below.refl _ _⟩
  case round =>
    obtain ⟨k, hk, rfl, HE, HB⟩ := hrel
    by_cases hlt : k < N
    · obtain ⟨g, o, rfl, hc⟩ := HP.out (by omega)
      obtain ⟨g', o', rfl, hc'⟩ := HQ.out (by omega)
      have hkl : k < a.length := by rw [← HN.out]; exact hlt
      have hkb : k < b.length := by rw [← HNb.out]; exact hlt
      have hp := u8s_get a k hkl
      have hq := u8s_get b k hkb
      obtain ⟨x, hx⟩ : ∃ x, Hid (x = a[k]) := ⟨a[k], rfl⟩
      obtain ⟨y, hy⟩ : ∃ y, Hid (y = b[k]) := ⟨b[k], rfl⟩
      rw [← hx.out] at hp
      rw [← hy.out] at hq
      have keep : ∀ {x : Addr} {y : Value}, w.cell? x = some y → wr.cell? x = some y := fun h => (HB.cell (block_lt_of_cell h)).trans h
      have c1 := keep (hc _ _ hp)
      have d1 := keep (hc' _ _ hq)
      have HC := Lib.hid hc
      have HC' := Lib.hid hc'
      clear hc hc' hp hq keep
      have hlt2 : (k : Int) < (N : Int) := by omega
      by_cases hxy : x = y
      · have HE2 : Hid (a.take (k + 1) = b.take (k + 1)) := by
          show _ = _
          rw [← List.take_append_getElem hkl, ← List.take_append_getElem hkb, HE.out, ← hx.out, ← hy.out, hxy]
        subst hxy
        go_wp2
        go_quiet (fail)
        go_wp2
        go_roundw
        case rel => exact ⟨k + 1, by omega, by go_num, HE2, below_drewN HB _⟩
        case measure => simp [intOf]; omega
      · have HF : Hid (eqB a b = false) := by
          show _ = _
          unfold eqB
          rw [decide_eq_false_iff_not]
          intro e
          apply hxy
          rw [hx.out, hy.out]
          subst e
          rfl
        have b1 : (x == y) = false := by simpa using hxy
        have b2 : (x != y) = true := by simpa using hxy
        have HXY := Lib.hid hxy
        clear hxy
        go_wp2
        go_quiet (fail)
        go_wp2
        go_ret
        rw [HF.out]
        exact ⟨rfl, below_drewN HB _⟩
    · have HF : Hid (eqB a b = true) := by
        show _ = _
        unfold eqB
        rw [decide_eq_true_iff]
        have := HE.out
        rw [List.take_of_length_le (by rw [← HN.out]; omega), List.take_of_length_le (by rw [← HNb.out]; omega)] at this
        exact this
      go_wp2
      go_ret
      rw [HF.out]
      exact ⟨rfl, HB⟩

-- LONG
def LongRes (bs : List Int) (y0 ym y3 y4 ys y7 y8 : Int) (w : World) (e : Ending) (w' : World) : Prop :=
  (goodN bs ∧ ∃ v, e = .returned (.tuple #[.agg #[.int .i64 y0, .int .i64 ym, .int .i64 y3, .int .i64 y4, .int .i64 ys, .int .i64 y7, .int .i64 y8, v], .int .i64 0]) ∧ IntsAt w' v (ptsN bs) ∧ Below w.heap.size w w') ∨ (¬ goodN bs ∧ e = .returned (.tuple #[.agg #[.int .i64 0, .int .i64 0, .int .i64 0, .int .i64 0, .int .i64 0, .int .i64 0, .int .i64 0, .slice none 0 0], .int .i64 3]) ∧ Below w.heap.size w w')
theorem below_setRow' {B : Nat} {a w : World} (h : Below B a w) {g : Nat} (hp : B ≤ g) (cs : Array Value) : Below B a (w.setRow g cs) := below_setRow h hp cs
theorem nodeI : (Try.prog.info? 46).map (·.size) = some 8 := by kernel_rfl
theorem node_ones (a b c d e f g : Int) (v : Value) (hv : v.oneCell' = true) : (#[Value.int .i64 a, .int .i64 b, .int .i64 c, .int .i64 d, .int .i64 e, .int .i64 f, .int .i64 g, v] : Array Value).all (·.oneCell') = true := by
  rw [Array.all_eq_true_iff_forall_mem]
  intro x hx
  simp only [List.mem_toArray, List.mem_cons, List.not_mem_nil, or_false] at hx
  rcases hx with rfl | rfl | rfl | rfl | rfl | rfl | rfl | rfl <;> first | rfl | exact hv
/-- A slice of ints is not touched by a store over what is no int. -/
theorem ints_setCell {w : World} {v : Value} {P : List Int} (h : IntsAt w v P) {g i : Nat} (hg : ∀ n, w.cell? ⟨g, i, none⟩ ≠ some (.int .i64 n)) (x : Value) : IntsAt (w.setCell ⟨g, i, none⟩ x) v P := by
  obtain ⟨h1, h2⟩ := h
  refine ⟨h1, h2.imp id ?_⟩
  rintro ⟨g', off, cap, hv, hc⟩
  refine ⟨g', off, cap, hv, fun j y hy => ?_⟩
  have hj := hc j y hy
  have hyi : ∃ n, y = .int .i64 n := by
    have := (List.getElem?_eq_some_iff.1 hy).1
    simp only [ints, List.length_map] at this
    rw [ints_get P j this] at hy
    exact ⟨_, by injection hy with hy; exact hy.symm⟩
  obtain ⟨n, rfl⟩ := hyi
  rw [World.cell?_setCell_other _ _ _ _ (by intro e; injection e with e1 e2; subst e1 e2; exact hg n hj)]
  exact hj
theorem ints_setRow {w : World} {v : Value} {P : List Int} (h : IntsAt w v P) {g : Nat} (hg : ∀ b, v.ownBlock = some b → b ≠ g) (cs : Array Value) : IntsAt (w.setRow g cs) v P := by
  obtain ⟨h1, h2⟩ := h
  refine ⟨h1, h2.imp id ?_⟩
  rintro ⟨g', off, cap, rfl, hc⟩
  exact ⟨g', off, cap, rfl, fun j y hy => (World.cell?_of_block (setRow_other w g g' cs (hg g' rfl))).trans (hc j y hy)⟩
theorem packN_good (k m u g s l up : Int) (v : Value) (P : List Int) (w : World) (h : IntsAt w v P) (hr : rightN k m u g s l up P = 0) :
    Calls Try.prog 25 #[.agg #[.int .i64 k, .int .i64 m, .int .i64 u, .int .i64 g, .int .i64 s, .int .i64 l, .int .i64 up, v]] w (PackNRes k m u g s l up P w) := by
  by_cases hk : k = 0
  · subst hk
    unfold rightN at hr
    rw [if_pos rfl] at hr
    by_cases hz : m = 0 ∧ u = 0 ∧ g = 0 ∧ s = 0 ∧ l = 0 ∧ up = 0 ∧ P.length = 0
    · obtain ⟨rfl, rfl, rfl, rfl, rfl, rfl, hP⟩ := hz
      obtain rfl : P = [] := List.length_eq_zero_iff.1 hP
      exact packN_none v w h
    · rw [if_neg hz] at hr; cases hr
  · exact packN_some k m u g s l up v P w h hr hk
theorem packN_len {k m u g s l up : Int} {P : List Int} (hr : rightN k m u g s l up P = 0) : (packN k m u g s l up P).length = 32 := by
  unfold packN
  by_cases hk : k = 0
  · rw [if_pos hk, List.length_replicate]
  · rw [if_neg hk, List.length_append, List.length_append, packOf_len (rightN_ok hr hk).2.2.2.2.2.2.2.1, List.length_replicate]; rfl
theorem u8_block {w : World} {g n cap : Nat} {D : List Int} {t : TypeId} (hn : D.length = n) (h : w.heap[g]? = some (.cells (byts D) t (0, 0))) : BytesAt w (.slice (some ⟨g, 0, none⟩) n cap) D := by
  refine ⟨by rw [u8s_len, Nat.mul_one], Or.inr ⟨g, 0, cap, by rw [hn], fun j x hx => ?_⟩⟩
  rw [Nat.zero_add, cell_of_row _ _ _ _ _ _ h]
  simpa [byts, u8s] using hx
set_option maxRecDepth 100000 in
set_option maxHeartbeats 4000000 in
theorem unpackN_long (bs : List Int) (gb ob cap : Nat) (y0 y1 y2 y3 y4 y5 y6 y7 y8 ym ys : Int) (w : World) (hcap : 32 ≤ cap) (hbs : BytesAt w (.slice (some ⟨gb, ob, none⟩) 32 cap) bs) (hmid : ∀ c, BytesAt w (.slice (some ⟨gb, ob + 9, none⟩) 16 c) (midB bs)) (hn : bs.length = 32) (hx : ∀ x, x ∈ bs → 0 ≤ x ∧ x ≤ 255)
    (Hm : Hid (ym = y1 + y2 * 256)) (Hs : Hid (ys = y5 + y6 * 256)) (hG : Hid (goodN bs ↔ goodB (midB bs) ∧ rightN y0 ym y3 y4 ys y7 y8 (ptsN bs) = 0 ∧ packN y0 ym y3 y4 ys y7 y8 (ptsN bs) = bs))
    (c0 : w.cell? ⟨gb, ob, none⟩ = some (.int .u8 y0)) (c1 : w.cell? ⟨gb, ob + 1, none⟩ = some (.int .u8 y1)) (c2 : w.cell? ⟨gb, ob + 2, none⟩ = some (.int .u8 y2)) (c3 : w.cell? ⟨gb, ob + 3, none⟩ = some (.int .u8 y3)) (c4 : w.cell? ⟨gb, ob + 4, none⟩ = some (.int .u8 y4)) (c5 : w.cell? ⟨gb, ob + 5, none⟩ = some (.int .u8 y5)) (c6 : w.cell? ⟨gb, ob + 6, none⟩ = some (.int .u8 y6)) (c7 : w.cell? ⟨gb, ob + 7, none⟩ = some (.int .u8 y7)) (c8 : w.cell? ⟨gb, ob + 8, none⟩ = some (.int .u8 y8))
    (b0 : 0 ≤ y0) (d0 : y0 ≤ 255) (b1 : 0 ≤ y1) (d1 : y1 ≤ 255) (b2 : 0 ≤ y2) (d2 : y2 ≤ 255) (b3 : 0 ≤ y3) (d3 : y3 ≤ 255) (b4 : 0 ≤ y4) (d4 : y4 ≤ 255) (b5 : 0 ≤ y5) (d5 : y5 ≤ 255) (b6 : 0 ≤ y6) (d6 : y6 ≤ 255) (b7 : 0 ≤ y7) (d7 : y7 ≤ 255) (b8 : 0 ≤ y8) (d8 : y8 ≤ 255) :
    Calls Try.prog 27 #[.slice (some ⟨gb, ob, none⟩) 32 cap] w (LongRes bs y0 ym y3 y4 ys y7 y8 w) := by
  have hgl : gb < w.heap.size := block_lt_of_cell c0
  have hne : ¬ gb = w.heap.size := by omega
  have HBS := Lib.hid hbs
  have HMID := Lib.hid hmid
  have HN := Lib.hid hn
  have HX := Lib.hid hx
  clear hbs hmid hn hx
  go_enter Try.func27, Try.ntmps27
  go_upto_region 3 with fail
  go_cut [4] (fun s4 wx => ∃ g4, s4 = .pointer (some ⟨g4, 0, none⟩) ∧ w.heap.size < g4 ∧ Hid (wx.heap[g4]? = some (.cells #[.int .i64 y0, .int .i64 ym, .int .i64 y3, .int .i64 y4, .int .i64 ys, .int .i64 y7, .int .i64 y8, (.slice none 0 0)] 46 (0, 0))) ∧ Hid (wx.heap[w.heap.size]? = some (.cells #[.int .i64 0, .int .i64 0, .int .i64 0, .int .i64 0, .int .i64 0, .int .i64 0, .int .i64 0, .slice none 0 0] 46 (0, 0))) ∧ Below w.heap.size w wx)
  case first =>
    have hw0 : IntKind.i64.wrap y0 = y0 := IntWalk.i64_in _ (by omega); have hw1 : IntKind.i64.wrap y1 = y1 := IntWalk.i64_in _ (by omega); have hw2 : IntKind.i64.wrap y2 = y2 := IntWalk.i64_in _ (by omega); have hw3 : IntKind.i64.wrap y3 = y3 := IntWalk.i64_in _ (by omega); have hw4 : IntKind.i64.wrap y4 = y4 := IntWalk.i64_in _ (by omega); have hw5 : IntKind.i64.wrap y5 = y5 := IntWalk.i64_in _ (by omega); have hw6 : IntKind.i64.wrap y6 = y6 := IntWalk.i64_in _ (by omega); have hw7 : IntKind.i64.wrap y7 = y7 := IntWalk.i64_in _ (by omega); have hw8 : IntKind.i64.wrap y8 = y8 := IntWalk.i64_in _ (by omega)
    have hw10 : IntKind.i64.wrap (y2 * 256) = y2 * 256 := IntWalk.i64_in _ (by omega)
    have hw11 : IntKind.i64.wrap (y6 * 256) = y6 * 256 := IntWalk.i64_in _ (by omega)
    have ho1 : bits .or .i64 y1 (y2 * 256) = ym := by rw [or_int _ _ b1 d1 b2 d2, Hm.out]
    have ho2 : bits .or .i64 y5 (y6 * 256) = ys := by rw [or_int _ _ b5 d5 b6 d6, Hs.out]
    go_region_held3 (fun w' => w'.cell? ⟨gb, ob, none⟩ = some (.int .u8 y0) ∧ w'.cell? ⟨gb, ob + 1, none⟩ = some (.int .u8 y1) ∧ w'.cell? ⟨gb, ob + 2, none⟩ = some (.int .u8 y2) ∧ w'.cell? ⟨gb, ob + 3, none⟩ = some (.int .u8 y3) ∧ w'.cell? ⟨gb, ob + 4, none⟩ = some (.int .u8 y4) ∧ w'.cell? ⟨gb, ob + 5, none⟩ = some (.int .u8 y5) ∧ w'.cell? ⟨gb, ob + 6, none⟩ = some (.int .u8 y6) ∧ w'.cell? ⟨gb, ob + 7, none⟩ = some (.int .u8 y7) ∧ w'.cell? ⟨gb, ob + 8, none⟩ = some (.int .u8 y8)) (go_keep) (fail)
    all_goals
      clear hw0 hw1 hw2 hw3 hw4 hw5 hw6 hw7 hw8 hw10 hw11 ho1 ho2
      go_wp2_with fail
      go_meet
      case rel =>
        have e : (w.alloc (.cells #[.int .i64 0, .int .i64 0, .int .i64 0, .int .i64 0, .int .i64 0, .int .i64 0, .int .i64 0, .slice none 0 0] 46)).heap.size = w.heap.size + 1 := by simp
        refine ⟨w.heap.size + 1, rfl, by omega, ?_, heap_alloc_keep (heap_alloc_new w _) _, (((Below.refl _ _).alloc (Nat.le_refl _) _).alloc (by simp) _).drew⟩
        have := heap_alloc_new (w.alloc (.cells #[.int .i64 0, .int .i64 0, .int .i64 0, .int .i64 0, .int .i64 0, .int .i64 0, .int .i64 0, .slice none 0 0] 46)) (.cells #[.int .i64 y0, .int .i64 ym, .int .i64 y3, .int .i64 y4, .int .i64 ys, .int .i64 y7, .int .i64 y8, (.slice none 0 0)] 46)
        rw [e] at this
        exact this
  case rest =>
    obtain ⟨g4, rfl, hg4, H4, HR, hB⟩ := hcut
    clear c0 c1 c2 c3 c4 c5 c6 c7 c8
    have HM2 : Hid (∀ c, BytesAt wc (.slice (some ⟨gb, ob + 9, none⟩) 16 c) (midB bs)) := fun c => RowAt.below (HMID.out c) hB
    have HB2 : Hid (BytesAt wc (.slice (some ⟨gb, ob, none⟩) 32 cap) bs) := RowAt.below HBS.out hB
    have hcap2 : (25 : Int) ≤ (cap : Int) := by omega
    have hcap3 : ¬ cap = 9 := by omega
    have hcap4 : 25 ≤ cap := by omega
    go_wp2_with fail
    refine (unpack_new _ (midB bs) _ (HM2.out _) (by unfold midB; rw [List.length_take]; omega) (fun x hx => HX.out x (List.mem_of_mem_drop (List.mem_of_mem_take hx)))).mono ?_
    rintro e w5 (⟨hg, r, rfl, hI, hb5, hnw⟩ | ⟨hg, rfl, hb5⟩)
    · have HGB := Lib.hid hg
      have HI5 : Hid (IntsAt w5 r (ptsN bs)) := hI
      have H5 : Hid (w5.heap[g4]? = some (.cells #[.int .i64 y0, .int .i64 ym, .int .i64 y3, .int .i64 y4, .int .i64 ys, .int .i64 y7, .int .i64 y8, (.slice none 0 0)] 46 (0, 0))) := heap_below hb5 H4.out
      have HR5 : Hid (w5.heap[w.heap.size]? = some (.cells #[.int .i64 0, .int .i64 0, .int .i64 0, .int .i64 0, .int .i64 0, .int .i64 0, .int .i64 0, .slice none 0 0] 46 (0, 0))) := heap_below hb5 HR.out
      have HB5 : Hid (BytesAt w5 (.slice (some ⟨gb, ob, none⟩) 32 cap) bs) := RowAt.below HB2.out hb5
      have hB5 := Below.step hB hb5
      obtain ⟨rp, rc, hre, hr1⟩ : ∃ p c, r = .slice p (ptsN bs).length c ∧ True := by
        obtain ⟨_, ⟨h0, a0, c0, rfl⟩ | ⟨g, o, cap, rfl, hc⟩⟩ := hI
        · exact ⟨a0, c0, by rw [show (ptsN bs).length = 0 from h0], trivial⟩
        · exact ⟨_, cap, rfl, trivial⟩
      obtain ⟨np, Hnp⟩ : ∃ n, Hid (n = (ptsN bs).length) := ⟨_, rfl⟩
      rw [← Hnp.out] at hre
      subst hre
      have HNW : Hid (∀ b, (Value.slice rp np rc).ownBlock = some b → w.heap.size < b) := fun b hb => by have := hnw b hb; have := heap_lt H4.out; omega
      clear hg hI hb5 hr1 hnw
      have x7 := (node_cells H5.out).2.2.2.2.2.2.2
      have fz : w5.frozen? ⟨g4, 7, none⟩ = false := frozen_of_row _ _ _ _ _ H5.out
      have hg4l : g4 < w5.heap.size := heap_lt H5.out
      have H6 : Hid ((w5.setCell ⟨g4, 7, none⟩ (.slice rp np rc)).heap[g4]? = some (.cells #[.int .i64 y0, .int .i64 ym, .int .i64 y3, .int .i64 y4, .int .i64 ys, .int .i64 y7, .int .i64 y8, (.slice rp np rc)] 46 (0, 0))) := heap_setCell_same _ _ 7 _ _ (.slice rp np rc) H5.out
      have HR6 : Hid ((w5.setCell ⟨g4, 7, none⟩ (.slice rp np rc)).heap[w.heap.size]? = some (.cells #[.int .i64 0, .int .i64 0, .int .i64 0, .int .i64 0, .int .i64 0, .int .i64 0, .int .i64 0, .slice none 0 0] 46 (0, 0))) := (Below.heap_setCell _ _ _ _ (by show w.heap.size ≠ g4; omega)).trans HR5.out
      have HI6 : Hid (IntsAt (w5.setCell ⟨g4, 7, none⟩ (.slice rp np rc)) (.slice rp np rc) (ptsN bs)) := ints_setCell HI5.out (fun n h => by rw [x7] at h; injection h with h; cases h) _
      have hB6 : Below w.heap.size w (w5.setCell ⟨g4, 7, none⟩ (.slice rp np rc)) := hB5.setCell (by show w.heap.size ≤ g4; omega) _
      have HB6 : Hid (BytesAt (w5.setCell ⟨g4, 7, none⟩ (.slice rp np rc)) (.slice (some ⟨gb, ob, none⟩) 32 cap) bs) := RowAt.below HBS.out hB6
      go_upto_region 8 with fail
      generalize w5.setCell ⟨g4, 7, none⟩ (.slice rp np rc) = w6 at *
      obtain ⟨q0, q1, q2, q3, q4, q5, q6, q7⟩ := node_cells H6.out
      clear x7 fz H5 HR5 HB5 HI5 hB5
      obtain ⟨c, Hc⟩ : ∃ c, Hid (rightN y0 ym y3 y4 ys y7 y8 (ptsN bs) = c) := ⟨_, rfl⟩
      have hnl : (ptsN bs).length ≤ 8 := by have := ptsOf_right HGB.out.2.1; exact right_len this
      by_cases hc0 : c = 0
      · subst hc0
        go_wp2_with fail
        refine (packN_good y0 ym y3 y4 ys y7 y8 _ (ptsN bs) _ HI6.out Hc.out).mono ?_
        rintro e w7 ⟨gp, rfl, hgp, hhp, hb7⟩
        have H7 : Hid (w7.heap[g4]? = some (.cells #[.int .i64 y0, .int .i64 ym, .int .i64 y3, .int .i64 y4, .int .i64 ys, .int .i64 y7, .int .i64 y8, (.slice rp np rc)] 46 (0, 0))) := heap_below hb7 H6.out
        have HR7 : Hid (w7.heap[w.heap.size]? = some (.cells #[.int .i64 0, .int .i64 0, .int .i64 0, .int .i64 0, .int .i64 0, .int .i64 0, .int .i64 0, .slice none 0 0] 46 (0, 0))) := heap_below hb7 HR6.out
        have HI7 : Hid (IntsAt w7 (.slice rp np rc) (ptsN bs)) := RowAt.below HI6.out hb7
        have HB7 : Hid (BytesAt w7 (.slice (some ⟨gb, ob, none⟩) 32 cap) bs) := RowAt.below HB6.out hb7
        have hB7 := Below.step hB6 hb7
        have hpl := packN_len Hc.out
        have HPB : Hid (BytesAt w7 (.slice (some ⟨gp, 0, none⟩) 32 32) (packN y0 ym y3 y4 ys y7 y8 (ptsN bs))) := u8_block hpl hhp
        have HPL := Lib.hid hpl
        clear q0 q1 q2 q3 q4 q5 q6 q7 hhp hb7 hpl H6 HR6 HI6 HB6 hB6
        go_wp2_with fail
        refine (equalBytes_dec _ _ _ bs _ HPB.out HB7.out (by rw [HPL.out, HN.out]) (by rw [HPL.out]; omega)).mono ?_
        obtain ⟨q, Hq⟩ : ∃ q, Hid (eqB (packN y0 ym y3 y4 ys y7 y8 (ptsN bs)) bs = q) := ⟨_, rfl⟩
        rw [Hq.out]
        rintro e w8 ⟨rfl, hb8⟩
        have H8 : Hid (w8.heap[g4]? = some (.cells #[.int .i64 y0, .int .i64 ym, .int .i64 y3, .int .i64 y4, .int .i64 ys, .int .i64 y7, .int .i64 y8, (.slice rp np rc)] 46 (0, 0))) := heap_below hb8 H7.out
        have HR8 : Hid (w8.heap[w.heap.size]? = some (.cells #[.int .i64 0, .int .i64 0, .int .i64 0, .int .i64 0, .int .i64 0, .int .i64 0, .int .i64 0, .slice none 0 0] 46 (0, 0))) := heap_below hb8 HR7.out
        have HI8 : Hid (IntsAt w8 (.slice rp np rc) (ptsN bs)) := RowAt.below HI7.out hb8
        have hB8 := Below.step hB7 hb8
        clear hb8 H7 HR7 HI7 HB7 hB7
        cases q with
        | true =>
          have HGOOD : Hid (goodN bs) := hG.out.2 ⟨HGB.out, Hc.out, of_decide_eq_true Hq.out⟩
          obtain ⟨q0, q1, q2, q3, q4, q5, q6, q7⟩ := node_cells H8.out
          have HZ : Hid ((w8.setRow w.heap.size #[.int .i64 y0, .int .i64 ym, .int .i64 y3, .int .i64 y4, .int .i64 ys, .int .i64 y7, .int .i64 y8, (.slice rp np rc)]).heap[w.heap.size]? = some (.cells #[.int .i64 y0, .int .i64 ym, .int .i64 y3, .int .i64 y4, .int .i64 ys, .int .i64 y7, .int .i64 y8, (.slice rp np rc)] 46 (0, 0))) := setRow_heap _ _ _ _ _ _ HR8.out
          have HBZ : Hid (Below w.heap.size w (w8.setRow w.heap.size #[.int .i64 y0, .int .i64 ym, .int .i64 y3, .int .i64 y4, .int .i64 ys, .int .i64 y7, .int .i64 y8, (.slice rp np rc)])) := below_setRow hB8 (Nat.le_refl _) _
          have HIZ : Hid (IntsAt (w8.setRow w.heap.size #[.int .i64 y0, .int .i64 ym, .int .i64 y3, .int .i64 y4, .int .i64 ys, .int .i64 y7, .int .i64 y8, (.slice rp np rc)]) (.slice rp np rc) (ptsN bs)) := ints_setRow HI8.out (fun b hb => by have := HNW.out b hb; omega) _
          go_wp2_with (refine wpList_store_row rfl 46 (.tmp 2) (.tmp 78) rfl w.heap.size #[.int .i64 y0, .int .i64 ym, .int .i64 y3, .int .i64 y4, .int .i64 ys, .int .i64 y7, .int .i64 y8, (.slice rp np rc)] rfl rfl 46 _ HR8.out nodeI rfl (node_ones _ _ _ _ _ _ _ _ rfl) ?_)
          obtain ⟨z0, z1, z2, z3, z4, z5, z6, z7⟩ := node_cells HZ.out
          refine bodyPost_ret (v := .tuple #[.agg #[.int .i64 y0, .int .i64 ym, .int .i64 y3, .int .i64 y4, .int .i64 ys, .int .i64 y7, .int .i64 y8, (.slice rp np rc)], .int .i64 0]) (by simp [results, Try.results27, go_sem, z0, z1, z2, z3, z4, z5, z6, z7]) rfl (Or.inl ⟨HGOOD.out, _, rfl, HIZ.out, HBZ.out⟩)
        | false =>
          have HNG : Hid (¬ goodN bs) := fun hgd => by
            have := (hG.out.1 hgd).2.2
            exact absurd (decide_eq_true this) (by have := Hq.out; unfold eqB at this; rw [this]; simp)
          have HZ : Hid ((w8.setRow w.heap.size #[.int .i64 0, .int .i64 0, .int .i64 0, .int .i64 0, .int .i64 0, .int .i64 0, .int .i64 0, .slice none 0 0]).heap[w.heap.size]? = some (.cells #[.int .i64 0, .int .i64 0, .int .i64 0, .int .i64 0, .int .i64 0, .int .i64 0, .int .i64 0, .slice none 0 0] 46 (0, 0))) := setRow_heap _ _ _ _ _ _ HR8.out
          have HBZ : Hid (Below w.heap.size w (w8.setRow w.heap.size #[.int .i64 0, .int .i64 0, .int .i64 0, .int .i64 0, .int .i64 0, .int .i64 0, .int .i64 0, .slice none 0 0])) := below_setRow hB8 (Nat.le_refl _) _
          go_wp2_with (refine wpList_store_row rfl 46 (.tmp 2) (.tmp 77) rfl w.heap.size #[.int .i64 0, .int .i64 0, .int .i64 0, .int .i64 0, .int .i64 0, .int .i64 0, .int .i64 0, .slice none 0 0] rfl rfl 46 _ HR8.out nodeI rfl (node_ones _ _ _ _ _ _ _ _ rfl) ?_)
          obtain ⟨z0, z1, z2, z3, z4, z5, z6, z7⟩ := node_cells HZ.out
          refine bodyPost_ret (v := .tuple #[.agg #[.int .i64 0, .int .i64 0, .int .i64 0, .int .i64 0, .int .i64 0, .int .i64 0, .int .i64 0, .slice none 0 0], .int .i64 3]) (by simp [results, Try.results27, go_sem, z0, z1, z2, z3, z4, z5, z6, z7]) rfl (Or.inr ⟨HNG.out, rfl, HBZ.out⟩)
      · have HNG : Hid (¬ goodN bs) := fun hgd => hc0 (by rw [← Hc.out]; exact (hG.out.1 hgd).2.1)
        have n1 : (c == 0) = false := by simpa using hc0
        have n2 : (c != 0) = true := by simpa using hc0
        have HC0 := Lib.hid hc0
        clear hc0
        go_wp2_with fail
        refine (packN_bad y0 ym y3 y4 ys y7 y8 _ (ptsN bs) _ HI6.out (by omega) c Hc n2).mono ?_
        rintro e w7 ⟨rfl, hb7⟩
        have HR7 : Hid (w7.heap[w.heap.size]? = some (.cells #[.int .i64 0, .int .i64 0, .int .i64 0, .int .i64 0, .int .i64 0, .int .i64 0, .int .i64 0, .slice none 0 0] 46 (0, 0))) := heap_below hb7 HR6.out
        have hB7 := Below.step hB6 hb7
        clear q0 q1 q2 q3 q4 q5 q6 q7 hb7 H6 HR6 HI6 HB6 hB6
        have HZ : Hid ((w7.setRow w.heap.size #[.int .i64 0, .int .i64 0, .int .i64 0, .int .i64 0, .int .i64 0, .int .i64 0, .int .i64 0, .slice none 0 0]).heap[w.heap.size]? = some (.cells #[.int .i64 0, .int .i64 0, .int .i64 0, .int .i64 0, .int .i64 0, .int .i64 0, .int .i64 0, .slice none 0 0] 46 (0, 0))) := setRow_heap _ _ _ _ _ _ HR7.out
        have HBZ : Hid (Below w.heap.size w (w7.setRow w.heap.size #[.int .i64 0, .int .i64 0, .int .i64 0, .int .i64 0, .int .i64 0, .int .i64 0, .int .i64 0, .slice none 0 0])) := below_setRow hB7 (Nat.le_refl _) _
        go_wp2_with (refine wpList_store_row rfl 46 (.tmp 2) (.tmp 77) rfl w.heap.size #[.int .i64 0, .int .i64 0, .int .i64 0, .int .i64 0, .int .i64 0, .int .i64 0, .int .i64 0, .slice none 0 0] rfl rfl 46 _ HR7.out nodeI rfl (node_ones _ _ _ _ _ _ _ _ rfl) ?_)
        obtain ⟨z0, z1, z2, z3, z4, z5, z6, z7⟩ := node_cells HZ.out
        refine bodyPost_ret (v := .tuple #[.agg #[.int .i64 0, .int .i64 0, .int .i64 0, .int .i64 0, .int .i64 0, .int .i64 0, .int .i64 0, .slice none 0 0], .int .i64 3]) (by simp [results, Try.results27, go_sem, z0, z1, z2, z3, z4, z5, z6, z7]) rfl (Or.inr ⟨HNG.out, rfl, HBZ.out⟩)
    · have HNG : Hid (¬ goodN bs) := fun hgd => hg hgd.2.1
      have HR5 : Hid (w5.heap[w.heap.size]? = some (.cells #[.int .i64 0, .int .i64 0, .int .i64 0, .int .i64 0, .int .i64 0, .int .i64 0, .int .i64 0, .slice none 0 0] 46 (0, 0))) := heap_below hb5 HR.out
      have hB5 := Below.step hB hb5
      clear hg hb5
      have HZ : Hid ((w5.setRow w.heap.size #[.int .i64 0, .int .i64 0, .int .i64 0, .int .i64 0, .int .i64 0, .int .i64 0, .int .i64 0, .slice none 0 0]).heap[w.heap.size]? = some (.cells #[.int .i64 0, .int .i64 0, .int .i64 0, .int .i64 0, .int .i64 0, .int .i64 0, .int .i64 0, .slice none 0 0] 46 (0, 0))) := setRow_heap _ _ _ _ _ _ HR5.out
      have HBZ : Hid (Below w.heap.size w (w5.setRow w.heap.size #[.int .i64 0, .int .i64 0, .int .i64 0, .int .i64 0, .int .i64 0, .int .i64 0, .int .i64 0, .slice none 0 0])) := below_setRow hB5 (Nat.le_refl _) _
      go_wp2_with (refine wpList_store_row rfl 46 (.tmp 2) (.tmp 61) rfl w.heap.size #[.int .i64 0, .int .i64 0, .int .i64 0, .int .i64 0, .int .i64 0, .int .i64 0, .int .i64 0, .slice none 0 0] rfl rfl 46 _ HR5.out nodeI rfl (node_ones _ _ _ _ _ _ _ _ rfl) ?_)
      obtain ⟨z0, z1, z2, z3, z4, z5, z6, z7⟩ := node_cells HZ.out
      refine bodyPost_ret (v := .tuple #[.agg #[.int .i64 0, .int .i64 0, .int .i64 0, .int .i64 0, .int .i64 0, .int .i64 0, .int .i64 0, .slice none 0 0], .int .i64 3]) (by simp [results, Try.results27, go_sem, z0, z1, z2, z3, z4, z5, z6, z7]) rfl (Or.inr ⟨HNG.out, rfl, HBZ.out⟩)

end Go.Proofs.Ytneknlbmiofmlaa
