/- slices.IndexFunc and slices.DeleteFunc of puts, by a closure that asks for a barrier; slices.Clone of puts. Turned from the texts on quota's rows. -/
import Derived.Test.YthkcnihmfeilgaaDkSpun
import Derived.Test.YthkcnihmfeilgaaRwPlain
import Derived.Deep.DeepCutAuto
namespace Go.Proofs.Ythkcnihmfeilgaa
open Go.RowKit

/-- Is it a barrier? -/
def isBar (x : Int × ByteArray) : Bool := pkN x.1 17 == 16
def idxP (l : List (Int × ByteArray)) : Option Nat := l.findIdx? isBar
def idxPI (l : List (Int × ByteArray)) : Int := match idxP l with | some k => (k : Int) | none => -1
def noBar (l : List (Int × ByteArray)) : List (Int × ByteArray) := l.filter fun x => !isBar x
theorem idxP_spec (l : List (Int × ByteArray)) : (idxP l = none ∧ ∀ j (hj : j < l.length), isBar l[j] = false) ∨ (∃ k, ∃ hk : k < l.length, idxP l = some k ∧ isBar l[k] = true ∧ ∀ j (hj : j < l.length), j < k → isBar l[j] = false) := by
  unfold idxP
  cases h : l.findIdx? isBar with
  | none =>
    rw [List.findIdx?_eq_none_iff] at h
    exact Or.inl ⟨rfl, fun j hj => h _ (List.getElem_mem hj)⟩
  | some k =>
    rw [List.findIdx?_eq_some_iff_getElem] at h
    obtain ⟨hk, h1, h2⟩ := h
    exact Or.inr ⟨k, hk, rfl, h1, fun j hj hjk => by simpa using h2 j hjk⟩
theorem idxP_some {l : List (Int × ByteArray)} {k : Nat} (hk : k < l.length) (h1 : ∀ j (hj : j < l.length), j < k → isBar l[j] = false) (h2 : isBar l[k] = true) : idxP l = some k := by
  unfold idxP
  rw [List.findIdx?_eq_some_iff_getElem]
  exact ⟨hk, h2, fun j hj => by simpa using h1 j (by omega) hj⟩
theorem idxP_none {l : List (Int × ByteArray)} (h1 : ∀ j (hj : j < l.length), isBar l[j] = false) : idxP l = none := by
  unfold idxP
  rw [List.findIdx?_eq_none_iff]
  intro x hx
  obtain ⟨j, hj, rfl⟩ := List.mem_iff_getElem.1 hx
  exact h1 j hj
theorem noBar_snoc (l : List (Int × ByteArray)) (k : Nat) (hk : k < l.length) : noBar (l.take (k + 1)) = noBar (l.take k) ++ (if isBar l[k] = true then [] else [l[k]]) := by
  unfold noBar
  rw [← List.take_append_getElem hk, List.filter_append]
  congr 1
  cases h : isBar l[k] <;> simp [h]
theorem noBar_all {l : List (Int × ByteArray)} : (∀ j (hj : j < l.length), isBar l[j] = false) → noBar l = l := fun h => by
  unfold noBar
  rw [List.filter_eq_self]
  intro x hx
  obtain ⟨j, hj, rfl⟩ := List.mem_iff_getElem.1 hx
  rw [h j hj]; rfl
theorem puts_append (a b : List (Int × ByteArray)) : puts (a ++ b) = puts a ++ puts b := by unfold puts; simp
theorem putT2 : Try.prog.underlying 42 = some (.slice 55) := by kernel_rfl
theorem putZ : ∀ w, (zeroValue 55).run Try.prog w = .ok (.agg #[.int .i64 0, .string { data := #[] }]) w := fun _ => by kernel_rfl
/-- What comes of it: a slice that lies from block B on. -/
def PutsRes (B : Nat) (l : List (Int × ByteArray)) (w : World) (e : Ending) (w' : World) : Prop := ∃ v, e = .returned v ∧ w'.ownsRow B 55 2 v l.length (puts l) ∧ Below B w w' ∧ w.heap.size ≤ w'.heap.size
section
variable {P : Program}
/-- clear of a slice whose elements are pairs of integers. -/
theorem run_clear_puts (w : World) (t e : TypeId) (ht : P.underlying t = some (.slice e)) (hv : ∀ w, (zeroValue e).run P w = .ok (.agg #[.int .i64 0, .string { data := #[] }]) w)
    (g o n c : Nat) (cur : Array Value) (ct : TypeId) (hn : 0 < n) (hg : w.heap[g]? = some (.cells cur ct (0, 0))) (hfit : o + n * 2 ≤ cur.size) :
    ∃ zs : List Value, zs.length = n * 2 ∧ ∀ ty, (Builtin.clear_ #[t] ty #[.slice (some ⟨g, o, none⟩) n c]).run P w = .ok (.tuple #[]) (w.setRow g (cur.toList.take o ++ zs ++ cur.toList.drop (o + zs.length)).toArray) := by
  have hlen : ((Builtin.zeroCells #[.int .i64 0, .string { data := #[] }] n).toList).length = n * 2 := by rw [Array.length_toList, size_zeroCells]; rfl
  have hone : ∀ v ∈ (Builtin.zeroCells #[.int .i64 0, .string { data := #[] }] n).toList, v.oneCell' = true := by
    intro v hv
    simp only [Builtin.zeroCells, Array.toList_map, List.mem_map] at hv
    obtain ⟨i, _, rfl⟩ := hv
    have h2 : i % 2 < 2 := Nat.mod_lt _ (by omega)
    show (#[Value.int .i64 0, Value.string { data := #[] }][i % 2]!).oneCell' = true
    rcases (by omega : i % 2 = 0 ∨ i % 2 = 1) with h | h <;> rw [h] <;> rfl
  refine ⟨_, hlen, fun ty => ?_⟩
  have hst := run_storeCells_at P g o ct (Builtin.zeroCells #[.int .i64 0, .string { data := #[] }] n).toList 0 cur w hg (by rw [hlen]; omega) hone
  simp only [Nat.add_zero] at hst
  obtain ⟨m, rfl⟩ : ∃ m, n = m + 1 := ⟨n - 1, by omega⟩
  simp [Builtin.clear_, run_underlying ht, hv, Value.cells, hst]
end

theorem two_set (L : List Value) (p : Nat) (x y : Value) (h : p + 1 < L.length) : ((L.set p x).set (p + 1) y).take (p + 2) = L.take p ++ [x, y] ∧ ∀ q, p + 2 ≤ q → ((L.set p x).set (p + 1) y)[q]? = L[q]? := by
  constructor
  · apply List.ext_getElem?
    intro q
    rw [List.getElem?_take]
    have hl : (L.take p).length = p := by rw [List.length_take]; omega
    by_cases h1 : q < p
    · rw [if_pos (by omega), List.getElem?_append_left (by omega), List.getElem?_take, if_pos h1, List.getElem?_set_ne (by omega), List.getElem?_set_ne (by omega)]
    · rw [List.getElem?_append_right (by omega), hl]
      by_cases h2 : q = p
      · subst h2
        rw [if_pos (by omega), List.getElem?_set_ne (by omega), List.getElem?_set_self (by omega), Nat.sub_self]; rfl
      · by_cases h3 : q = p + 1
        · subst h3
          rw [if_pos (by omega), List.getElem?_set_self (by rw [List.length_set]; omega), show p + 1 - p = 1 by omega]; rfl
        · rw [if_neg (by omega), List.getElem?_eq_none (by simp; omega)]
  · intro q hq
    rw [List.getElem?_set_ne (by omega), List.getElem?_set_ne (by omega)]

theorem below_rowSet {B : Nat} {a w : World} (h : Below B a w) {g : Nat} (hp : B ≤ g) (cs : Array Value) : Below B a (w.setRow g cs) :=
  ⟨h.os, h.tape, h.output, by have := h.size; simp only [World.setRow, Array.size_modify]; exact this, fun k hk => by rw [setRow_other _ _ _ _ (by omega)]; exact h.block k hk⟩

theorem puts_cells {w : World} {v : Value} {l : List (Int × ByteArray)} (h : PutsAt w v l) : ∃ a c, v = .slice a l.length c ∧ (0 < l.length → ∃ g o, a = some ⟨g, o, none⟩ ∧ g < w.heap.size ∧ ∀ k (hk : k < l.length), w.cell? ⟨g, o + k * 2, none⟩ = some (.int .i64 l[k].1) ∧ w.cell? ⟨g, o + k * 2 + 1, none⟩ = some (.string l[k].2)) := by
  obtain ⟨p, cp, hv, hp⟩ := puts_open h l.length rfl
  exact ⟨p, cp, hv, hp⟩
def fnP (f : Nat) : Value := .func (.func f) #[] #[]
set_option maxHeartbeats 1000000 in
theorem indexP_any (f : Nat) (eg : ∀ args w, (callFunc f args).run Try.prog w = .ok (.enter f args) w) (HC0 : Hid (∀ (x : Int) (s : ByteArray) (W : World), Calls Try.prog f #[.agg #[.int .i64 x, .string s]] W fun e w' => e = .returned (.bool (isBar (x, s))) ∧ Below W.heap.size W w')) (v : Value) (l : List (Int × ByteArray)) (w : World) (h : RowAt w v 2 l.length (puts l)) (hl : l.length ≤ 1000000) :
    Calls Try.prog 61 #[v, fnP f] w fun e w' => e = .returned (.int .i64 (idxPI l)) ∧ Below w.heap.size w w' := by
  obtain ⟨a, c, hv, HC⟩ := puts_cells h
  obtain ⟨n, HN⟩ : ∃ n, Hid (n = l.length) := ⟨_, rfl⟩
  rw [← HN.out] at hv hl
  subst hv
  have HCH := Lib.hid HC
  clear HC h
  unfold fnP
  go_enter Try.func61, Try.ntmps61
  go_wp2
  go_loopw [8] (fun i wr => ∃ k : Nat, k ≤ n ∧ i = .int .i64 k ∧ Hid (∀ j (hj : j < l.length), j < k → isBar l[j] = false) ∧ Below w.heap.size w wr) (fun i _ => n - (intOf i).toNat)
  case atStart => exact ⟨0, by omega, rfl, fun j _ hj => by omega, Below.refl _ _⟩
  case round =>
    obtain ⟨k, hk, rfl, HO, HB⟩ := hrel
    by_cases hlt : k < n
    · have hkl : k < l.length := by rw [← HN.out]; exact hlt
      obtain ⟨g, o, rfl, hg, hc⟩ := HCH.out (by omega)
      obtain ⟨x, Hx⟩ : ∃ x, Hid (x = l[k].1) := ⟨l[k].1, rfl⟩
      obtain ⟨y, Hy⟩ : ∃ y, Hid (y = l[k].2) := ⟨l[k].2, rfl⟩
      have c0 : wr.cell? ⟨g, o + k * 2, none⟩ = some (.int .i64 x) := by rw [HB.cell (p := ⟨g, o + k * 2, none⟩) hg, (hc k hkl).1, Hx.out]
      have c1 : wr.cell? ⟨g, o + k * 2 + 1, none⟩ = some (.string y) := by rw [HB.cell (p := ⟨g, o + k * 2 + 1, none⟩) hg, (hc k hkl).2, Hy.out]
      clear hc
      go_wp2_with fail
      refine (HC0.out x y _).mono ?_
      by_cases hxu : isBar (x, y) = true
      · have HF : Hid (idxPI l = (k : Int)) := by
          show _ = _
          unfold idxPI
          rw [idxP_some hkl (fun j hj hjk => HO.out j hj hjk) (by rw [show l[k] = (x, y) by rw [Hx.out, Hy.out]]; exact hxu)]
        have b1 : isBar (x, y) = true := hxu
        rw [b1]
        clear hxu b1
        rintro e w1 ⟨rfl, hb1⟩
        have hB1 := Below.step HB hb1
        clear hb1
        go_wp2
        go_ret
        rw [HF.out]
        exact ⟨rfl, hB1⟩
      · have b1 : isBar (x, y) = false := by simpa using hxu
        have HO2 : Hid (∀ j (hj : j < l.length), j < k + 1 → isBar l[j] = false) := fun j hj hjk => by
          by_cases e : j = k
          · subst e; rw [show l[j] = (x, y) by rw [Hx.out, Hy.out]]; simpa using hxu
          · exact HO.out j hj (by omega)
        rw [b1]
        clear hxu b1
        rintro e w1 ⟨rfl, hb1⟩
        have hB1 := Below.step HB hb1
        clear hb1
        go_wp2
        go_roundw
        case rel => exact ⟨k + 1, by omega, by go_num, HO2, hB1⟩
        case measure => simp [intOf]; omega
    · have HF : Hid (idxPI l = -1) := by
        show _ = _
        unfold idxPI
        rw [idxP_none fun j hj => HO.out j hj (by rw [← HN.out] at hj; omega)]
      go_wp2
      go_ret
      rw [HF.out]
      exact ⟨rfl, HB⟩


set_option maxRecDepth 100000 in
set_option maxHeartbeats 4000000 in
theorem deleteP_some (f : Nat) (eg : ∀ args w, (callFunc f args).run Try.prog w = .ok (.enter f args) w) (HC0 : Hid (∀ (x : Int) (s : ByteArray) (W : World), Calls Try.prog f #[.agg #[.int .i64 x, .string s]] W fun e w' => e = .returned (.bool (isBar (x, s))) ∧ Below W.heap.size W w')) (B g cap : Nat) (cur0 : Array Value) (l : List (Int × ByteArray)) (n k0 : Nat) (w : World) (hBg : B ≤ g) (hgw : g < w.heap.size) (hBw : B ≤ w.heap.size)
    (HN : Hid (n = l.length)) (hl : n ≤ 1000000) (hn : n ≤ cap) (hcap : cap ≤ maxLen) (HG : Hid (w.heap[g]? = some (.cells cur0 55 (0, 0)))) (HS : Hid (cur0.size = cap * 2)) (HT : Hid (cur0.toList.take (n * 2) = puts l))
    (hk0 : k0 < n) (HI : Hid (idxP l = some k0)) (HE : Hid (∀ j (hj : j < l.length), j < k0 → isBar l[j] = false)) (HU : Hid (∀ (h : k0 < l.length), isBar l[k0] = true)) :
    Calls Try.prog 26 #[.slice (some ⟨g, 0, none⟩) n cap, fnP f] w (PutsRes B (noBar l) w) := by
  have _ := hgw
  unfold maxLen at hcap
  have HCELL : Hid (∀ m (hm : m < l.length), cur0[m * 2]? = some (.int .i64 l[m].1) ∧ cur0[m * 2 + 1]? = some (.string l[m].2)) := fun m hm => by
    have h1 := puts_get l m hm
    rw [← HT.out, List.getElem?_take, List.getElem?_take, if_pos (by rw [HN.out]; omega), if_pos (by rw [HN.out]; omega)] at h1
    exact ⟨by simpa using h1.1, by simpa using h1.2⟩
  have hrow : RowAt w (.slice (some ⟨g, 0, none⟩) n cap) 2 l.length (puts l) := by
    refine ⟨puts_len l, Or.inr ⟨g, 0, cap, by rw [HN.out], fun j x hj => ?_⟩⟩
    rw [Nat.zero_add, cell_of_row _ _ _ _ _ _ HG.out]
    have hjl := (List.getElem?_eq_some_iff.1 hj).1
    rw [puts_len] at hjl
    rw [← HT.out, List.getElem?_take, if_pos (by rw [HN.out]; omega)] at hj
    simpa using hj
  have HIX := indexP_any f eg HC0 _ l w hrow (by rw [← HN.out]; exact hl)
  have HII : Hid (idxPI l = (k0 : Int)) := by show _ = _; unfold idxPI; rw [HI.out]
  rw [HII.out] at HIX
  have HIXH := Lib.hid HIX
  clear HIX hrow
  unfold fnP
  unfold fnP at HIXH
  go_enter Try.func26, Try.ntmps26
  go_wp2_with fail
  refine HIXH.out.mono ?_
  rintro e w1 ⟨rfl, hb1⟩
  have HG1 : Hid (w1.heap[g]? = some (.cells cur0 55 (0, 0))) := heap_below hb1 HG.out
  have hB1 : Below B w w1 := hb1.mono hBw
  have hz1 : w.heap.size ≤ w1.heap.size := hb1.size
  clear hb1
  have hk1 : ((k0 : Int) == -1) = false := by rw [beq_eq_false_iff_ne]; omega
  go_wp2
  go_loopw [5, 6] (fun a b wr => ∃ i j : Nat, a = .int .i64 i ∧ b = .int .i64 j ∧ i < j ∧ j ≤ n ∧ Hid (i = (noBar (l.take j)).length) ∧ Hid (∃ cur : Array Value, wr.heap[g]? = some (.cells cur 55 (0, 0)) ∧ cur.size = cap * 2 ∧ cur.toList.take (i * 2) = puts (noBar (l.take j)) ∧ ∀ m (hm : m < l.length), j ≤ m → cur[m * 2]? = some (.int .i64 l[m].1) ∧ cur[m * 2 + 1]? = some (.string l[m].2)) ∧ Below B w wr ∧ w.heap.size ≤ wr.heap.size) (fun _ b _ => n - (intOf b).toNat)
  case atStart =>
    have hkl : k0 < l.length := by rw [← HN.out]; exact hk0
    have e1 : noBar (l.take (k0 + 1)) = l.take k0 := by
      rw [noBar_snoc l k0 hkl, HU.out hkl, noBar_all fun j hj => by
        have hj2 : j < k0 := by rw [List.length_take] at hj; omega
        rw [List.getElem_take]
        exact HE.out j (by omega) hj2]
      simp
    refine ⟨k0, k0 + 1, rfl, by go_num, by omega, by omega, ?_, ⟨cur0, HG1.out, HS.out, ?_, fun m hm _ => HCELL.out m hm⟩, hB1, hz1⟩
    · rw [e1, List.length_take]; show k0 = _; omega
    · rw [e1]
      have : cur0.toList.take (k0 * 2) = (puts l).take (k0 * 2) := by rw [← HT.out, List.take_take]; congr 1; omega
      rw [this]
      have e2 : l = l.take k0 ++ l.drop k0 := (List.take_append_drop k0 l).symm
      conv => lhs; rw [e2, puts_append]
      rw [List.take_append_of_le_length (by rw [puts_len, List.length_take]; omega), List.take_of_length_le (by rw [puts_len, List.length_take]; omega)]
  case round =>
    obtain ⟨i, j, rfl, rfl, hij, hj, HIL, HC, HB, hz⟩ := hrel
    obtain ⟨cur, hg, hs, ht, hc⟩ := HC.out
    have HGC := Lib.hid hg
    have HSC := Lib.hid hs
    have HTC := Lib.hid ht
    have HCC := Lib.hid hc
    clear hg hs ht hc HC
    by_cases hlt : j < n
    · have hjl : j < l.length := by rw [← HN.out]; exact hlt
      obtain ⟨x, Hx⟩ : ∃ x, Hid (x = l[j].1) := ⟨l[j].1, rfl⟩
      obtain ⟨y, Hy⟩ : ∃ y, Hid (y = l[j].2) := ⟨l[j].2, rfl⟩
      have hgr : g < wr.heap.size := heap_lt HGC.out
      have c0 : wr.cell? ⟨g, j * 2, none⟩ = some (.int .i64 x) := by rw [cell_of_row _ _ _ _ _ _ HGC.out, (HCC.out j hjl (Nat.le_refl _)).1, Hx.out]
      have c1 : wr.cell? ⟨g, j * 2 + 1, none⟩ = some (.string y) := by rw [cell_of_row _ _ _ _ _ _ HGC.out, (HCC.out j hjl (Nat.le_refl _)).2, Hy.out]
      go_wp2_with fail
      refine (HC0.out x y _).mono ?_
      have HSN := Lib.hid (noBar_snoc l j hjl)
      rw [show l[j] = (x, y) by rw [Hx.out, Hy.out]] at HSN
      have HGA : Hid ((wr.alloc (.cells #[.int .i64 x, .string y] 55)).heap[g]? = some (.cells cur 55 (0, 0))) := heap_alloc_keep HGC.out _
      by_cases hxu : isBar (x, y) = true
      · have b1 : isBar (x, y) = true := hxu
        rw [b1, if_pos rfl, List.append_nil] at HSN
        rw [b1]
        clear hxu b1
        rintro e w3 ⟨rfl, hb3⟩
        have HG3 : Hid (w3.heap[g]? = some (.cells cur 55 (0, 0))) := heap_below hb3 HGA.out
        have hB3 : Below B w w3 := (HB.alloc (by omega) _).trans (hb3.mono (by simp; omega))
        have hz3 : w.heap.size ≤ w3.heap.size := by have := hb3.size; simp at this; omega
        clear hb3
        go_wp2
        go_roundw
        case rel => exact ⟨i, j + 1, rfl, by go_num, by omega, by omega, by show i = _; rw [HSN.out]; exact HIL.out, ⟨cur, HG3.out, HSC.out, by rw [HSN.out]; exact HTC.out, fun m hm hjm => HCC.out m hm (by omega)⟩, hB3, hz3⟩
        case measure => simp [intOf]; omega
      · have b1 : isBar (x, y) = false := by simpa using hxu
        rw [b1, if_neg (by simp)] at HSN
        rw [b1]
        clear hxu b1
        rintro e w3 ⟨rfl, hb3⟩
        have HG3 : Hid (w3.heap[g]? = some (.cells cur 55 (0, 0))) := heap_below hb3 HGA.out
        have HR3 : Hid (w3.heap[wr.heap.size]? = some (.cells #[.int .i64 x, .string y] 55 (0, 0))) := heap_below hb3 (heap_alloc_new wr _)
        have hB3 : Below B w w3 := (HB.alloc (by omega) _).trans (hb3.mono (by simp; omega))
        have hz3 : w.heap.size ≤ w3.heap.size := by have := hb3.size; simp at this; omega
        clear hb3
        have hsz : i * 2 + 1 < cur.size := by rw [HSC.out]; omega
        obtain ⟨v0, hv0⟩ : ∃ v0, cur[i * 2]? = some v0 := ⟨_, Array.getElem?_eq_getElem (by omega)⟩
        obtain ⟨v1, hv1⟩ : ∃ v1, cur[i * 2 + 1]? = some v1 := ⟨_, Array.getElem?_eq_getElem hsz⟩
        have d0 : w3.cell? ⟨g, i * 2, none⟩ = some v0 := by rw [cell_of_row _ _ _ _ _ _ HG3.out]; exact hv0
        have d1 : w3.cell? ⟨g, i * 2 + 1, none⟩ = some v1 := by rw [cell_of_row _ _ _ _ _ _ HG3.out]; exact hv1
        have f0 : w3.frozen? ⟨g, i * 2, none⟩ = false := frozen_of_row _ _ _ _ _ HG3.out
        have f1 : w3.frozen? ⟨g, i * 2 + 1, none⟩ = false := frozen_of_row _ _ _ _ _ HG3.out
        have r0 : w3.cell? ⟨wr.heap.size, 0, none⟩ = some (.int .i64 x) := by rw [cell_of_row _ _ _ _ _ _ HR3.out]; rfl
        have r1 : w3.cell? ⟨wr.heap.size, 1, none⟩ = some (.string y) := by rw [cell_of_row _ _ _ _ _ _ HR3.out]; rfl
        have hil : (i : Int) < (n : Int) := by omega
        have hi0 : (0 : Int) ≤ (i : Int) := by omega
        have HSZ := Lib.hid hsz
        clear hv0 hv1 hsz
        go_wp2
        go_roundw
        case rel =>
          have h2 := two_set cur.toList (i * 2) (.int .i64 x) (.string y) (by rw [Array.length_toList]; exact HSZ.out)
          refine ⟨i + 1, j + 1, by go_num, by go_num, by omega, by omega, ?_, ⟨(cur.setIfInBounds (i * 2) (.int .i64 x)).setIfInBounds (i * 2 + 1) (.string y), ?_, ?_, ?_, ?_⟩, ?_, ?_⟩
          · show i + 1 = _
            rw [HSN.out, List.length_append, ← HIL.out]; rfl
          · exact heap_setCell_same _ _ _ _ _ _ (heap_setCell_same _ _ _ _ _ _ HG3.out)
          · rw [Array.size_setIfInBounds, Array.size_setIfInBounds]; exact HSC.out
          · rw [Array.toList_setIfInBounds, Array.toList_setIfInBounds, show (i + 1) * 2 = i * 2 + 2 by omega, h2.1, HTC.out, HSN.out, puts_append]
            rfl
          · intro m hm hjm
            have e0 := h2.2 (m * 2) (by omega)
            have e1 := h2.2 (m * 2 + 1) (by omega)
            rw [← Array.getElem?_toList, ← Array.getElem?_toList, Array.toList_setIfInBounds, Array.toList_setIfInBounds, e0, e1, Array.getElem?_toList, Array.getElem?_toList]
            exact HCC.out m hm (by omega)
          · exact (hB3.setCell hBg _).setCell hBg _
          · simpa [World.setCell] using hz3
        case measure => simp [intOf]; omega
    · obtain rfl : j = n := by omega
      obtain ⟨zs, hzl, hrun⟩ := run_clear_puts (P := Try.prog) wr 42 55 putT2 putZ g (i * 2) (j - i) (cap - i) cur 55 (by omega) HGC.out (by rw [HSC.out]; omega)
      have hic : i ≠ cap := by omega
      have HZL := Lib.hid hzl
      obtain ⟨W, hW⟩ : ∃ W, W = wr.setRow g (cur.toList.take (i * 2) ++ zs ++ cur.toList.drop (i * 2 + zs.length)).toArray := ⟨_, rfl⟩
      rw [← hW] at hrun
      have HWH := Lib.hid hW
      clear hzl hW
      go_wp2
      go_ret
      have hfl : noBar (l.take j) = noBar l := by rw [List.take_of_length_le (by rw [← HN.out]; omega)]
      rw [hfl] at HTC HIL
      refine ⟨_, rfl, ?_, ?_, ?_⟩
      · rw [← HIL.out]
        refine ⟨by rw [puts_len, ← HIL.out], Or.inr ⟨g, cap, _, rfl, hBg, by rw [HWH.out]; exact setRow_heap _ _ _ _ _ _ HGC.out, by omega, by unfold maxLen; omega, ?_, ?_⟩⟩
        · simp [HZL.out, HSC.out]; omega
        · have hl1 : (cur.toList.take (i * 2)).length = i * 2 := by rw [List.length_take, Array.length_toList, HSC.out]; omega
          rw [List.append_assoc, List.take_append_of_le_length (by omega), List.take_of_length_le (by omega)]
          exact HTC.out
      · rw [HWH.out]; exact below_rowSet HB hBg _
      · rw [HWH.out]; simpa [World.setRow] using hz


set_option maxHeartbeats 1000000 in
theorem deleteP_none (f : Nat) (eg : ∀ args w, (callFunc f args).run Try.prog w = .ok (.enter f args) w) (HC0 : Hid (∀ (x : Int) (s : ByteArray) (W : World), Calls Try.prog f #[.agg #[.int .i64 x, .string s]] W fun e w' => e = .returned (.bool (isBar (x, s))) ∧ Below W.heap.size W w')) (B : Nat) (a : Option Addr) (n c : Nat) (l : List (Int × ByteArray)) (w : World) (hBw : B ≤ w.heap.size) (hn : n = l.length) (hl : n ≤ 1000000)
    (hown : w.ownsRow B 55 2 (.slice a n c) l.length (puts l)) (HI : Hid (idxP l = none)) (HO : Hid (noBar l = l)) :
    Calls Try.prog 26 #[.slice a n c, fnP f] w (PutsRes B (noBar l) w) := by
  have hrow := RowAt.of_owns hown
  have HIX := indexP_any f eg HC0 _ l w hrow (by omega)
  have HII : Hid (idxPI l = -1) := by show _ = _; unfold idxPI; rw [HI.out]
  rw [HII.out] at HIX
  have HIXH := Lib.hid HIX
  have HOWN := Lib.hid hown
  clear HIX hrow hown hn
  unfold fnP
  unfold fnP at HIXH
  go_enter Try.func26, Try.ntmps26
  go_wp2_with fail
  refine HIXH.out.mono ?_
  rintro e w1 ⟨rfl, hb1⟩
  have hB1 : Below B w w1 := hb1.mono hBw
  have hz1 : w.heap.size ≤ w1.heap.size := hb1.size
  have HO1 : Hid (w1.ownsRow B 55 2 (.slice a n c) l.length (puts l)) := owns_below HOWN.out hb1
  clear hb1
  go_wp2
  go_ret
  refine ⟨_, rfl, ?_, hB1, hz1⟩
  rw [HO.out]
  exact HO1.out

theorem deleteP_any (f : Nat) (eg : ∀ args w, (callFunc f args).run Try.prog w = .ok (.enter f args) w) (HC0 : Hid (∀ (x : Int) (s : ByteArray) (W : World), Calls Try.prog f #[.agg #[.int .i64 x, .string s]] W fun e w' => e = .returned (.bool (isBar (x, s))) ∧ Below W.heap.size W w')) (B : Nat) (v : Value) (l : List (Int × ByteArray)) (w : World) (hBw : B ≤ w.heap.size) (hl : l.length ≤ 1000000)
    (hown : w.ownsRow B 55 2 v l.length (puts l)) :
    Calls Try.prog 26 #[v, fnP f] w (PutsRes B (noBar l) w) := by
  rcases idxP_spec l with ⟨h1, h2⟩ | ⟨k, hk, h1, h2, h3⟩
  · obtain ⟨q, c, rfl, _⟩ := owns_slice hown
    exact deleteP_none f eg HC0 B q _ c l w hBw rfl hl hown h1 (noBar_all h2)
  · obtain ⟨hlen, ⟨_, h0⟩ | ⟨g, cap, cur, rfl, hg, hh, hc, hm, hs, ht⟩⟩ := hown
    · omega
    · exact deleteP_some f eg HC0 B g cap cur l _ k w hg (heap_lt hh) hBw rfl hl hc hm hh hs ht hk h1 h3 (fun _ => h2)


end Go.Proofs.Ythkcnihmfeilgaa
