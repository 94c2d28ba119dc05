/- Lost, walked. -/
import Derived.Test.YtablomjaaifgfaaOrCut
import Derived.Test.YtablomjaaifgfaaIntsIn
namespace Go.Proofs.Ytablomjaaifgfaa
open Go.RowKit

/-- An inode as it lies in memory. -/
structure Nd where
  k : Int
  m : Int
  u : Int
  g : Int
  s : Int
  l : Int
  up : Int
  q : Option Addr
  n : Nat
  c : Nat
def nd8 (x : Nd) : List Value := [.int .i64 x.k, .int .i64 x.m, .int .i64 x.u, .int .i64 x.g, .int .i64 x.s, .int .i64 x.l, .int .i64 x.up, .slice x.q x.n x.c]
def ncells (E : List Nd) : List Value := E.flatMap nd8
theorem ncells_len (E : List Nd) : (ncells E).length = E.length * 8 := by
  induction E with
  | nil => rfl
  | cons x E ih => simp only [ncells, List.flatMap_cons, List.length_append, List.length_cons] at *; simp only [nd8, List.length_cons, List.length_nil]; omega
theorem ncells_get (E : List Nd) (k : Nat) (hk : k < E.length) (j : Nat) (hj : j < 8) : (ncells E)[k * 8 + j]? = (nd8 E[k])[j]? := by
  induction E generalizing k with
  | nil => simp at hk
  | cons x E ih =>
    have e : ncells (x :: E) = nd8 x ++ ncells E := rfl
    have hl : (nd8 x).length = 8 := rfl
    rw [e]
    cases k with
    | zero => rw [List.getElem?_append_left (by rw [hl]; omega), Nat.zero_mul, Nat.zero_add]; rfl
    | succ k =>
      rw [List.getElem?_append_right (by rw [hl]; omega), hl, show (k + 1) * 8 + j - 8 = k * 8 + j by omega]
      exact ih k (by simpa using hk)
theorem ncells_at {w : World} {g o : Nat} {E : List Nd} (hc : ∀ (j : Nat) (x : Value), (ncells E)[j]? = some x → w.cell? ⟨g, o + j, none⟩ = some x) (k : Nat) (hk : k < E.length) :
    w.cell? ⟨g, o + k * 8, none⟩ = some (.int .i64 E[k].k) ∧ w.cell? ⟨g, o + k * 8 + 1, none⟩ = some (.int .i64 E[k].m) ∧ w.cell? ⟨g, o + k * 8 + 2, none⟩ = some (.int .i64 E[k].u) ∧ w.cell? ⟨g, o + k * 8 + 3, none⟩ = some (.int .i64 E[k].g) ∧
    w.cell? ⟨g, o + k * 8 + 4, none⟩ = some (.int .i64 E[k].s) ∧ w.cell? ⟨g, o + k * 8 + 5, none⟩ = some (.int .i64 E[k].l) ∧ w.cell? ⟨g, o + k * 8 + 6, none⟩ = some (.int .i64 E[k].up) ∧ w.cell? ⟨g, o + k * 8 + 7, none⟩ = some (.slice E[k].q E[k].n E[k].c) := by
  have h := fun j hj v hv => hc (k * 8 + j) v ((ncells_get E k hk j hj).trans hv)
  refine ⟨h 0 (by omega) _ rfl, ?_, ?_, ?_, ?_, ?_, ?_, ?_⟩
  · rw [Nat.add_assoc]; exact h 1 (by omega) _ rfl
  · rw [Nat.add_assoc]; exact h 2 (by omega) _ rfl
  · rw [Nat.add_assoc]; exact h 3 (by omega) _ rfl
  · rw [Nat.add_assoc]; exact h 4 (by omega) _ rfl
  · rw [Nat.add_assoc]; exact h 5 (by omega) _ rfl
  · rw [Nat.add_assoc]; exact h 6 (by omega) _ rfl
  · rw [Nat.add_assoc]; exact h 7 (by omega) _ rfl
theorem nodes_open {w : World} {v : Value} {E : List Nd} (h : RowAt w v 8 E.length (ncells E)) : ∃ p cp, v = .slice p E.length cp ∧ Hid (0 < E.length → ∃ g o, p = some ⟨g, o, none⟩ ∧ g < w.heap.size ∧ ∀ (j : Nat) (x : Value), (ncells E)[j]? = some x → w.cell? ⟨g, o + j, none⟩ = some x) := by
  obtain ⟨_, ⟨h0, a0, c0, rfl⟩ | ⟨g, o, cap, rfl, hc⟩⟩ := h
  · exact ⟨a0, c0, by rw [h0], fun h => by omega⟩
  · refine ⟨_, cap, rfl, fun h0 => ⟨g, o, rfl, ?_, hc⟩⟩
    exact block_lt_of_cell (ncells_at hc 0 h0).1

/-- The numbers of those that have no name and that nobody holds. -/
def lostB (x : Nd) (H : List Int) (i : Int) : Bool := !(x.k == 0) && (x.l == 0) && !(H.contains i)
def lostK (E : List Nd) (H : List Int) : Nat → List Int
  | 0 => []
  | k + 1 => lostK E H k ++ (match E[k]? with | some x => if lostB x H ((k : Int) + 1) = true then [(k : Int) + 1] else [] | none => [])
theorem lostK_step {E : List Nd} {H : List Int} {k : Nat} (hk : k < E.length) : lostK E H (k + 1) = lostK E H k ++ (if lostB E[k] H ((k : Int) + 1) = true then [(k : Int) + 1] else []) := by
  rw [lostK, List.getElem?_eq_getElem hk]
theorem lostK_len (E : List Nd) (H : List Int) : ∀ k, (lostK E H k).length ≤ k
  | 0 => Nat.le_refl _
  | k + 1 => by
    have ih := lostK_len E H k
    rw [lostK, List.length_append]
    split
    · split <;> simp <;> omega
    · simp; omega
theorem lostK_mem {E : List Nd} {H : List Int} {n : Int} : ∀ k, k ≤ E.length → n ∈ lostK E H k → ∃ i, ∃ hi : i < E.length, i < k ∧ n = (i : Int) + 1 ∧ lostB E[i] H n = true
  | 0, _, h => by simp [lostK] at h
  | k + 1, hk, h => by
    rw [lostK_step (by omega)] at h
    rcases List.mem_append.1 h with h | h
    · obtain ⟨i, hi, h1, h2⟩ := lostK_mem k (by omega) h
      exact ⟨i, hi, by omega, h2⟩
    · split at h
      · rename_i hb
        rw [List.mem_singleton] at h
        subst h
        exact ⟨k, by omega, by omega, rfl, hb⟩
      · simp at h

set_option maxRecDepth 100000 in
set_option maxHeartbeats 4000000 in
theorem lost_any (v hv : Value) (E : List Nd) (H : List Int) (w : World) (h1 : RowAt w v 8 E.length (ncells E)) (h2 : IntsAt w hv H) (hl : E.length ≤ 1000) (hl2 : H.length ≤ 1000000) :
    Calls Try.prog 14 #[v, hv] w fun e w' => ∃ r, e = .returned r ∧ w'.ownsRow w.heap.size 3 1 r (lostK E H E.length).length (ints (lostK E H E.length)) ∧ Below w.heap.size w w' := by
  obtain ⟨p, cp, rfl, HP⟩ := nodes_open h1
  obtain ⟨N, HN⟩ : ∃ N, Hid (E.length = N) := ⟨_, rfl⟩
  have H2 := Lib.hid h2
  obtain ⟨ph, nh, ch, hvh⟩ : ∃ p n c, hv = .slice p n c := by
    obtain ⟨_, ⟨h0, a0, c0, rfl⟩ | ⟨g, o, cap, rfl, hc⟩⟩ := h2
    · exact ⟨a0, _, c0, rfl⟩
    · exact ⟨_, _, cap, rfl⟩
  subst hvh
  rw [HN.out] at hl HP
  rw [HN.out]
  obtain ⟨i0, hi0, hz0, hz1, hz2⟩ := info_parts intInfoC
  have HI0 := Lib.hid hi0
  have HIZ := Lib.hid hz0
  have HI1 := Lib.hid hz1
  have HI2 := Lib.hid hz2
  clear h1 h2 hi0 hz0 hz1 hz2
  go_enter Try.func14, Try.ntmps14
  go_wp2
  go_loopw [5, 10] (fun o i wr => ∃ k : Nat, k ≤ N ∧ i = .int .i64 k ∧ Hid (wr.ownsRow w.heap.size 3 1 o (lostK E H k).length (ints (lostK E H k))) ∧ Below w.heap.size w wr) (fun _ i _ => N - (intOf i).toNat)
  case atStart => exact ⟨0, Nat.zero_le _, rfl, World.ownsRow_nil _ _ _ _, Below.refl _ _⟩
  case round =>
    obtain ⟨k, hk, rfl, HO, HB⟩ := hrel
    by_cases hlt : k < N
    · obtain ⟨g, o, rfl, hg, hc⟩ := HP.out (by omega)
      have hkl : k < E.length := by rw [HN.out]; exact hlt
      obtain ⟨d0, d1, d2, d3, d4, d5, d6, d7⟩ := ncells_at hc k hkl
      have HST := Lib.hid (lostK_step (H := H) hkl)
      generalize E[k] = x at d0 d1 d2 d3 d4 d5 d6 d7 HST
      obtain ⟨xk, xm, xu, xg, xs, xl, xup, xq, xn, xc⟩ := x
      have c0 := (HB.cell (p := ⟨g, o + k * 8, none⟩) hg).trans d0
      have c1 := (HB.cell (p := ⟨g, o + k * 8 + 1, none⟩) hg).trans d1
      have c2 := (HB.cell (p := ⟨g, o + k * 8 + 2, none⟩) hg).trans d2
      have c3 := (HB.cell (p := ⟨g, o + k * 8 + 3, none⟩) hg).trans d3
      have c4 := (HB.cell (p := ⟨g, o + k * 8 + 4, none⟩) hg).trans d4
      have c5 := (HB.cell (p := ⟨g, o + k * 8 + 5, none⟩) hg).trans d5
      have c6 := (HB.cell (p := ⟨g, o + k * 8 + 6, none⟩) hg).trans d6
      have c7 := (HB.cell (p := ⟨g, o + k * 8 + 7, none⟩) hg).trans d7
      dsimp only at c0 c1 c2 c3 c4 c5 c6 c7
      have hlt2 : (k : Int) < (N : Int) := by omega
      have hgl : g < wr.heap.size := Nat.lt_of_lt_of_le hg HB.size
      have hgn : ¬ g = wr.heap.size := by omega
      have hsz := HB.size
      have hbk : Below w.heap.size w (wr.alloc (.cells #[.int .i64 xk, .int .i64 xm, .int .i64 xu, .int .i64 xg, .int .i64 xs, .int .i64 xl, .int .i64 xup, .slice xq xn xc] 24)) := HB.alloc hsz _
      have HBK := Lib.hid hbk
      have HOA := Lib.hid (fun o => HO.out.alloc o)
      have hlt' := HO.out.lt
      have HLT := Lib.hid (fun q hq => (hlt' q hq).1)
      have hll := lostK_len E H k
      have HNB : Hid (((wr.alloc (.cells #[.int .i64 xk, .int .i64 xm, .int .i64 xu, .int .i64 xg, .int .i64 xs, .int .i64 xl, .int .i64 xup, .slice xq xn xc] 24)).alloc (.cells #[.int .i64 ((k : Int) + 1)] 3)).heap[wr.heap.size + 1]? = some (.cells #[.int .i64 ((k : Int) + 1)] 3 (0, 0))) := by
        have := heap_alloc_new (wr.alloc (.cells #[.int .i64 xk, .int .i64 xm, .int .i64 xu, .int .i64 xg, .int .i64 xs, .int .i64 xl, .int .i64 xup, .slice xq xn xc] 24)) (.cells #[.int .i64 ((k : Int) + 1)] 3)
        rw [show (wr.alloc (.cells #[.int .i64 xk, .int .i64 xm, .int .i64 xu, .int .i64 xg, .int .i64 xs, .int .i64 xl, .int .i64 xup, .slice xq xn xc] 24)).heap.size = wr.heap.size + 1 by simp] at this
        exact this
      have HCT := Lib.hid (containsInts_any (.slice ph nh ch) H ((k : Int) + 1) _ (RowAt.below H2.out HBK.out) hl2)
      obtain ⟨cb, HCB⟩ : ∃ cb, Hid (H.contains ((k : Int) + 1) = cb) := ⟨_, rfl⟩
      rw [HCB.out] at HCT
      have HST2 : Hid (lostK E H (k + 1) = lostK E H k ++ (if (!(xk == 0) && (xl == 0) && !cb) = true then [(k : Int) + 1] else [])) := by
        show _ = _
        rw [HST.out]
        unfold lostB
        rw [HCB.out]
      clear hc d0 d1 d2 d3 d4 d5 d6 d7 hlt' hbk HST
      have NOT : Hid ((!(xk == 0) && (xl == 0) && !cb) = false → (wr.alloc (.cells #[.int .i64 xk, .int .i64 xm, .int .i64 xu, .int .i64 xg, .int .i64 xs, .int .i64 xl, .int .i64 xup, .slice xq xn xc] 24)).ownsRow w.heap.size 3 1 u5 (lostK E H (k + 1)).length (ints (lostK E H (k + 1)))) := fun hf => by
        rw [HST2.out, hf, if_neg (by simp), List.append_nil]
        exact HOA.out _
      by_cases hk0 : xk = 0
      · have b1 : (xk == 0) = true := by simpa using hk0
        have b2 : (xk != 0) = false := by simp [bne, b1]
        have HO1 := Lib.hid (NOT.out (by rw [b1]; rfl))
        clear hk0
        go_wp2
        go_roundw
        case rel => exact ⟨k + 1, by omega, by go_num, HO1, HBK.out⟩
        case measure => simp [intOf]; omega
      · have b1 : (xk == 0) = false := by simpa using hk0
        have b2 : (xk != 0) = true := by simp [bne, b1]
        clear hk0
        by_cases hl0 : xl = 0
        · have b3 : (xl == 0) = true := by simpa using hl0
          have b4 : (xl != 0) = false := by simp [bne, b3]
          clear hl0
          cases cb with
          | true =>
            have HO1 := Lib.hid (NOT.out (by simp))
            go_wp2_with fail
            refine HCT.out.mono ?_
            rintro e w' ⟨rfl, rfl⟩
            go_wp2
            go_roundw
            case rel => exact ⟨k + 1, by omega, by go_num, HO1, HBK.out⟩
            case measure => simp [intOf]; omega
          | false =>
            have HST3 : Hid (lostK E H (k + 1) = lostK E H k ++ [(k : Int) + 1]) := by
              show _ = _
              rw [HST2.out, b1, b3]
              simp
            go_wp2_with fail
            refine HCT.out.mono ?_
            rintro e w' ⟨rfl, rfl⟩
            go_wp2_with (at_builtin; refine wpList_append_own _ rfl _ _ 22 rfl w.heap.size 3 i0 (.int .i64 0) 1 8 intsTC HI0.out HIZ.out HI1.out HI2.out rfl (by decide) _ _ _ rfl ((HOA.out _).alloc _) ⟨_, 0, none⟩ 1 1 [.int .i64 ((k : Int) + 1)] rfl rfl (World.news_of_block (cs := #[.int .i64 ((k : Int) + 1)]) (t := 3) (fr := (0, 0)) HNB.out) (by simp [Value.oneCell']) (by unfold maxLen; omega) (by omega) (by simp; omega) ?_; intro v' w1 hown hgrow _)
            have HO1 : Hid (w1.ownsRow w.heap.size 3 1 v' (lostK E H (k + 1)).length (ints (lostK E H (k + 1)))) := by
              show World.ownsRow _ _ _ _ _ _ _
              rw [HST3.out, List.length_append, ints_snocO]
              exact hown
            have HB1 : Below w.heap.size w w1 := Below.grown (HBK.out.alloc HBK.out.size _) hgrow (by simp; omega) HLT.out
            clear hown hgrow
            go_wp2
            go_roundw
            case rel => exact ⟨k + 1, by omega, by go_num, HO1, HB1⟩
            case measure => simp [intOf]; omega
        · have b3 : (xl == 0) = false := by simpa using hl0
          have b4 : (xl != 0) = true := by simp [bne, b3]
          have HO1 := Lib.hid (NOT.out (by rw [b3]; simp))
          clear hl0
          go_wp2
          go_roundw
          case rel => exact ⟨k + 1, by omega, by go_num, HO1, HBK.out⟩
          case measure => simp [intOf]; omega
    · have hkn : k = N := by omega
      subst hkn
      go_wp2
      go_ret
      exact ⟨_, rfl, HO.out, HB⟩

end Go.Proofs.Ytablomjaaifgfaa
