/- slices.IndexFunc and slices.DeleteFunc of ints, by a closure that asks for 0. Turned from the texts on puts. -/
import Derived.Test.YtablomjaaifgfaaOrFact
import Derived.Deep.DeepCutAuto
namespace Go.Proofs.Ytablomjaaifgfaa
open Go.RowKit

def isZ (x : Int) : Bool := x == 0
def idxZ (l : List Int) : Option Nat := l.findIdx? isZ
def idxZI (l : List Int) : Int := match idxZ l with | some k => (k : Int) | none => -1
theorem idxZ_spec (l : List Int) : (idxZ l = none ∧ ∀ j (hj : j < l.length), isZ l[j] = false) ∨ (∃ k, ∃ hk : k < l.length, idxZ l = some k ∧ isZ l[k] = true ∧ ∀ j (hj : j < l.length), j < k → isZ l[j] = false) := by
  unfold idxZ
  cases h : l.findIdx? isZ with
  | none =>
    rw [List.findIdx?_eq_none_iff] at h
    exact Or.inl ⟨rfl, fun j hj => h _ (List.getElem_mem hj)⟩
  | some k =>
    rw [List.findIdx?_eq_some_iff_getElem] at h
    obtain ⟨hk, h1, h2⟩ := h
    exact Or.inr ⟨k, hk, rfl, h1, fun j hj hjk => by simpa using h2 j hjk⟩
theorem idxZ_some {l : List Int} {k : Nat} (hk : k < l.length) (h1 : ∀ j (hj : j < l.length), j < k → isZ l[j] = false) (h2 : isZ l[k] = true) : idxZ l = some k := by
  unfold idxZ
  rw [List.findIdx?_eq_some_iff_getElem]
  exact ⟨hk, h2, fun j hj => by simpa using h1 j (by omega) hj⟩
theorem idxZ_none {l : List Int} (h1 : ∀ j (hj : j < l.length), isZ l[j] = false) : idxZ l = none := by
  unfold idxZ
  rw [List.findIdx?_eq_none_iff]
  intro x hx
  obtain ⟨j, hj, rfl⟩ := List.mem_iff_getElem.1 hx
  exact h1 j hj
theorem nzF_snoc (l : List Int) (k : Nat) (hk : k < l.length) : nzF (l.take (k + 1)) = nzF (l.take k) ++ (if isZ l[k] = true then [] else [l[k]]) := by
  rw [← List.take_append_getElem hk, nzF_app]
  congr 1
  unfold nzF
  cases h : isZ l[k]
  · have : (l[k] == 0) = false := h
    simp [this]
  · have : (l[k] == 0) = true := h
    simp [this]
theorem nzF_all {l : List Int} : (∀ j (hj : j < l.length), isZ l[j] = false) → nzF l = l := fun h => by
  unfold nzF
  rw [List.filter_eq_self]
  intro x hx
  obtain ⟨j, hj, rfl⟩ := List.mem_iff_getElem.1 hx
  have h2 : (l[j] == 0) = false := h j hj
  rw [h2]; rfl
theorem intsTD : Try.prog.underlying 22 = some (.slice 3) := by kernel_rfl
theorem intZ : ∀ w, (zeroValue 3).run Try.prog w = .ok (.int .i64 0) w := fun _ => by kernel_rfl
def ClosZ (f : Nat) : Prop := ∀ (x : Int) (W : World), Calls Try.prog f #[.int .i64 x] W fun e w' => e = .returned (.bool (isZ x)) ∧ W = w'
section
variable {P : Program}
/-- clear of a slice whose elements are pairs of integers. -/
theorem run_clear_ints (w : World) (t e : TypeId) (ht : P.underlying t = some (.slice e)) (hv : ∀ w, (zeroValue e).run P w = .ok (.int .i64 0) w)
    (g o n c : Nat) (cur : Array Value) (ct : TypeId) (hn : 0 < n) (hg : w.heap[g]? = some (.cells cur ct (0, 0))) (hfit : o + n * 1 ≤ cur.size) :
    ∃ zs : List Value, zs.length = n * 1 ∧ ∀ ty, (Builtin.clear_ #[t] ty #[.slice (some ⟨g, o, none⟩) n c]).run P w = .ok (.tuple #[]) (w.setRow g (cur.toList.take o ++ zs ++ cur.toList.drop (o + zs.length)).toArray) := by
  have hlen : ((Builtin.zeroCells #[.int .i64 0] n).toList).length = n * 1 := by rw [Array.length_toList, size_zeroCells]; rfl
  have hone : ∀ v ∈ (Builtin.zeroCells #[.int .i64 0] n).toList, v.oneCell' = true := by
    intro v hv
    simp only [Builtin.zeroCells, Array.toList_map, List.mem_map] at hv
    obtain ⟨i, _, rfl⟩ := hv
    show (#[Value.int .i64 0][i % 1]!).oneCell' = true
    rw [show i % 1 = 0 by omega]; rfl
  refine ⟨_, hlen, fun ty => ?_⟩
  have hst := run_storeCells_at P g o ct (Builtin.zeroCells #[.int .i64 0] n).toList 0 cur w hg (by rw [hlen]; omega) hone
  simp only [Nat.add_zero] at hst
  obtain ⟨m, rfl⟩ : ∃ m, n = m + 1 := ⟨n - 1, by omega⟩
  simp [Builtin.clear_, run_underlying ht, hv, Value.cells, hst]
end

theorem below_rowSetZ {B : Nat} {a w : World} (h : Below B a w) {g : Nat} (hp : B ≤ g) (cs : Array Value) : Below B a (w.setRow g cs) :=
  ⟨h.os, h.tape, h.output, by have := h.size; simp only [World.setRow, Array.size_modify]; exact this, fun k hk => by rw [setRow_other _ _ _ _ (by omega)]; exact h.block k hk⟩

def fnZ (f : Nat) : Value := .func (.func f) #[] #[]
def ZRes (B : Nat) (l : List Int) (w : World) (e : Ending) (w' : World) : Prop := ∃ v, e = .returned v ∧ w'.ownsRow B 3 1 v l.length (ints l) ∧ Below B w w' ∧ w.heap.size ≤ w'.heap.size
set_option maxHeartbeats 1000000 in
theorem indexZ_any (f : Nat) (eg : ∀ args w, (callFunc f args).run Try.prog w = .ok (.enter f args) w) (HC0 : Hid (ClosZ f)) (v : Value) (l : List Int) (w : World) (h : IntsAt w v l) (hl : l.length ≤ 1000000) :
    Calls Try.prog 28 #[v, fnZ f] w fun e w' => e = .returned (.int .i64 (idxZI l)) ∧ w = w' := by
  obtain ⟨a, c, hv, HCH⟩ := ints_open h
  obtain ⟨n, HN⟩ : ∃ n, Hid (n = l.length) := ⟨_, rfl⟩
  rw [← HN.out] at hv hl HCH
  subst hv
  clear h
  unfold fnZ
  go_enter Try.func28, Try.ntmps28
  go_wp2
  go_loop [8] (fun i => ∃ k : Nat, k ≤ n ∧ i = .int .i64 k ∧ Hid (∀ j (hj : j < l.length), j < k → isZ l[j] = false)) (fun i => n - (intOf i).toNat)
  case atStart => exact ⟨0, by omega, rfl, fun j _ hj => by omega⟩
  case round =>
    obtain ⟨k, hk, rfl, HO⟩ := hrel
    by_cases hlt : k < n
    · have hkl : k < l.length := by rw [← HN.out]; exact hlt
      obtain ⟨g, o, rfl, hc⟩ := HCH.out (by omega)
      obtain ⟨x, Hx⟩ : ∃ x, Hid (l[k] = x) := ⟨l[k], rfl⟩
      have c0 : w.cell? ⟨g, o + k, none⟩ = some (.int .i64 x) := hc k _ (by rw [← Hx.out]; simp [ints, List.getElem?_eq_getElem hkl])
      clear hc
      go_wp2_with fail
      refine (HC0.out x _).mono ?_
      by_cases hxu : isZ x = true
      · have HF : Hid (idxZI l = (k : Int)) := by
          show _ = _
          unfold idxZI
          rw [idxZ_some hkl (fun j hj hjk => HO.out j hj hjk) (by rw [Hx.out]; exact hxu)]
        rw [hxu]
        clear hxu
        rintro e w1 ⟨rfl, rfl⟩
        go_wp2
        go_ret
        rw [HF.out]
        exact ⟨rfl, rfl⟩
      · have b1 : isZ x = false := by simpa using hxu
        have HO2 : Hid (∀ j (hj : j < l.length), j < k + 1 → isZ l[j] = false) := fun j hj hjk => by
          by_cases e : j = k
          · subst e; rw [Hx.out]; exact b1
          · exact HO.out j hj (by omega)
        rw [b1]
        clear hxu b1
        rintro e w1 ⟨rfl, rfl⟩
        go_wp2
        go_round
        case rel => exact ⟨k + 1, by omega, by go_num, HO2⟩
        case measure => simp [intOf]; omega
    · have HF : Hid (idxZI l = -1) := by
        show _ = _
        unfold idxZI
        rw [idxZ_none fun j hj => HO.out j hj (by rw [← HN.out] at hj; omega)]
      go_wp2
      go_ret
      rw [HF.out]
      exact ⟨rfl, rfl⟩

set_option maxRecDepth 100000 in
set_option maxHeartbeats 4000000 in
theorem deleteZ_some (f : Nat) (eg : ∀ args w, (callFunc f args).run Try.prog w = .ok (.enter f args) w) (HC0 : Hid (ClosZ f)) (B g cap : Nat) (cur0 : Array Value) (l : List Int) (n k0 : Nat) (w : World) (hBg : B ≤ g)
    (HN : Hid (n = l.length)) (hl : n ≤ 1000000) (hn : n ≤ cap) (hcap : cap ≤ maxLen) (HG : Hid (w.heap[g]? = some (.cells cur0 3 (0, 0)))) (HS : Hid (cur0.size = cap * 1)) (HT : Hid (cur0.toList.take (n * 1) = ints l))
    (hk0 : k0 < n) (HI : Hid (idxZ l = some k0)) (HE : Hid (∀ j (hj : j < l.length), j < k0 → isZ l[j] = false)) (HU : Hid (∀ (h : k0 < l.length), isZ l[k0] = true)) :
    Calls Try.prog 18 #[.slice (some ⟨g, 0, none⟩) n cap, fnZ f] w (ZRes B (nzF l) w) := by
  unfold maxLen at hcap
  have HCELL : Hid (∀ m (hm : m < l.length), cur0[m]? = some (.int .i64 l[m])) := fun m hm => by
    have h1 : (ints l)[m]? = some (.int .i64 l[m]) := by simp [ints, List.getElem?_eq_getElem hm]
    rw [← HT.out, List.getElem?_take, if_pos (by rw [HN.out]; omega)] at h1
    simpa using h1
  have hrow : IntsAt w (.slice (some ⟨g, 0, none⟩) n cap) l := by
    refine ⟨by simp [ints], Or.inr ⟨g, 0, cap, by rw [HN.out], fun j x hj => ?_⟩⟩
    rw [Nat.zero_add, cell_of_row _ _ _ _ _ _ HG.out]
    have hjl := (List.getElem?_eq_some_iff.1 hj).1
    have hil : (ints l).length = l.length := by simp [ints]
    rw [← HT.out, List.getElem?_take, if_pos (by rw [HN.out]; omega)] at hj
    simpa using hj
  have HIX := indexZ_any f eg HC0 _ l w hrow (by rw [← HN.out]; exact hl)
  have HII : Hid (idxZI l = (k0 : Int)) := by show _ = _; unfold idxZI; rw [HI.out]
  rw [HII.out] at HIX
  have HIXH := Lib.hid HIX
  clear HIX hrow
  unfold fnZ
  unfold fnZ at HIXH
  go_enter Try.func18, Try.ntmps18
  go_wp2_with fail
  refine HIXH.out.mono ?_
  rintro e w1 ⟨rfl, rfl⟩
  have hk1 : ((k0 : Int) == -1) = false := by rw [beq_eq_false_iff_ne]; omega
  go_wp2
  go_loopw [5, 6] (fun a b wr => ∃ i j : Nat, a = .int .i64 i ∧ b = .int .i64 j ∧ i < j ∧ j ≤ n ∧ Hid (i = (nzF (l.take j)).length) ∧ Hid (∃ cur : Array Value, wr.heap[g]? = some (.cells cur 3 (0, 0)) ∧ cur.size = cap * 1 ∧ cur.toList.take (i * 1) = ints (nzF (l.take j)) ∧ ∀ m (hm : m < l.length), j ≤ m → cur[m]? = some (.int .i64 l[m])) ∧ Below B w wr ∧ w.heap.size ≤ wr.heap.size) (fun _ b _ => n - (intOf b).toNat)
  case atStart =>
    have hkl : k0 < l.length := by rw [← HN.out]; exact hk0
    have e1 : nzF (l.take (k0 + 1)) = l.take k0 := by
      rw [nzF_snoc l k0 hkl, HU.out hkl, nzF_all fun j hj => by
        have hj2 : j < k0 := by rw [List.length_take] at hj; omega
        rw [List.getElem_take]
        exact HE.out j (by omega) hj2]
      simp
    refine ⟨k0, k0 + 1, rfl, by go_num, by omega, by omega, ?_, ⟨cur0, HG.out, HS.out, ?_, fun m hm _ => HCELL.out m hm⟩, Below.refl _ _, Nat.le_refl _⟩
    · rw [e1, List.length_take]; show k0 = _; omega
    · rw [e1]
      have : cur0.toList.take (k0 * 1) = (ints l).take (k0 * 1) := by rw [← HT.out, List.take_take]; congr 1; omega
      rw [this, Nat.mul_one]
      simp [ints]
  case round =>
    obtain ⟨i, j, rfl, rfl, hij, hj, HIL, HC, HB, hz⟩ := hrel
    obtain ⟨cur, hg, hs, ht, hc⟩ := HC.out
    have HGC := Lib.hid hg
    have HSC := Lib.hid hs
    have HTC := Lib.hid ht
    have HCC := Lib.hid hc
    clear hg hs ht hc HC
    by_cases hlt : j < n
    · have hjl : j < l.length := by rw [← HN.out]; exact hlt
      obtain ⟨x, Hx⟩ : ∃ x, Hid (l[j] = x) := ⟨l[j], rfl⟩
      have hgr : g < wr.heap.size := heap_lt HGC.out
      have c0 : wr.cell? ⟨g, j, none⟩ = some (.int .i64 x) := by rw [cell_of_row _ _ _ _ _ _ HGC.out, HCC.out j hjl (Nat.le_refl _), Hx.out]
      have HSN := Lib.hid (nzF_snoc l j hjl)
      rw [Hx.out] at HSN
      go_wp2_with fail
      refine (HC0.out x _).mono ?_
      by_cases hxu : isZ x = true
      · rw [hxu, if_pos rfl, List.append_nil] at HSN
        rw [hxu]
        clear hxu
        rintro e w3 ⟨rfl, rfl⟩
        go_wp2
        go_roundw
        case rel => exact ⟨i, j + 1, rfl, by go_num, by omega, by omega, by show i = _; rw [HSN.out]; exact HIL.out, ⟨cur, HGC.out, HSC.out, by rw [HSN.out]; exact HTC.out, fun m hm hjm => HCC.out m hm (by omega)⟩, HB, hz⟩
        case measure => simp [intOf]; omega
      · have b1 : isZ x = false := by simpa using hxu
        rw [b1, if_neg (by simp)] at HSN
        rw [b1]
        clear hxu b1
        rintro e w3 ⟨rfl, rfl⟩
        have hsz : i < cur.size := by rw [HSC.out]; omega
        obtain ⟨v0, hv0⟩ : ∃ v0, cur[i]? = some v0 := ⟨_, Array.getElem?_eq_getElem hsz⟩
        have d0 : wr.cell? ⟨g, i, none⟩ = some v0 := by rw [cell_of_row _ _ _ _ _ _ HGC.out]; exact hv0
        have f0 : wr.frozen? ⟨g, i, none⟩ = false := frozen_of_row _ _ _ _ _ HGC.out
        have hil : (i : Int) < (n : Int) := by omega
        have hi0 : (0 : Int) ≤ (i : Int) := by omega
        have HSZ := Lib.hid hsz
        clear hv0 hsz
        go_wp2
        go_roundw
        case rel =>
          refine ⟨i + 1, j + 1, by go_num, by go_num, by omega, by omega, ?_, ⟨cur.setIfInBounds i (.int .i64 x), ?_, ?_, ?_, ?_⟩, ?_, ?_⟩
          · show i + 1 = _
            rw [HSN.out, List.length_append, ← HIL.out]; rfl
          · exact heap_setCell_same _ _ _ _ _ _ HGC.out
          · rw [Array.size_setIfInBounds]; exact HSC.out
          · have hh := HTC.out
            rw [Nat.mul_one] at hh
            rw [Array.toList_setIfInBounds, Nat.mul_one, List.take_succ_eq_append_getElem (by rw [List.length_set, Array.length_toList]; exact HSZ.out), List.take_set_of_le (Nat.le_refl _), hh, HSN.out, ints_snocO]
            simp
          · intro m hm hjm
            rw [Array.getElem?_setIfInBounds, if_neg (by omega)]
            exact HCC.out m hm (by omega)
          · exact HB.setCell hBg _
          · simpa [World.setCell] using hz
        case measure => simp [intOf]; omega
    · obtain rfl : j = n := by omega
      obtain ⟨zs, hzl, hrun⟩ := run_clear_ints (P := Try.prog) wr 22 3 intsTD intZ g i (j - i) (cap - i) cur 3 (by omega) HGC.out (by rw [HSC.out]; omega)
      have hic : i ≠ cap := by omega
      have HZL := Lib.hid hzl
      obtain ⟨W, hW⟩ : ∃ W, W = wr.setRow g (cur.toList.take i ++ zs ++ cur.toList.drop (i + zs.length)).toArray := ⟨_, rfl⟩
      rw [← hW] at hrun
      have HWH := Lib.hid hW
      clear hzl hW
      go_wp2
      go_ret
      have hfl : nzF (l.take j) = nzF l := by rw [List.take_of_length_le (by rw [← HN.out]; omega)]
      rw [hfl] at HTC HIL
      refine ⟨_, rfl, ?_, ?_, ?_⟩
      · rw [← HIL.out]
        refine ⟨by rw [HIL.out]; simp [ints], Or.inr ⟨g, cap, _, rfl, hBg, by rw [HWH.out]; exact setRow_heap _ _ _ _ _ _ HGC.out, by omega, by unfold maxLen; omega, ?_, ?_⟩⟩
        · simp [HZL.out, HSC.out]; omega
        · have hl1 : (cur.toList.take i).length = i := by rw [List.length_take, Array.length_toList, HSC.out]; omega
          have hh := HTC.out
          rw [Nat.mul_one] at hh ⊢
          rw [List.append_assoc, List.take_append_of_le_length (by omega), List.take_of_length_le (by omega)]
          exact hh
      · rw [HWH.out]; exact below_rowSetZ HB hBg _
      · rw [HWH.out]; simpa [World.setRow] using hz

set_option maxHeartbeats 1000000 in
theorem deleteZ_none (f : Nat) (eg : ∀ args w, (callFunc f args).run Try.prog w = .ok (.enter f args) w) (HC0 : Hid (ClosZ f)) (B : Nat) (a : Option Addr) (n c : Nat) (l : List Int) (w : World) (hl : l.length ≤ 1000000)
    (hown : w.ownsRow B 3 1 (.slice a n c) l.length (ints l)) (HI : Hid (idxZ l = none)) (HO : Hid (nzF l = l)) :
    Calls Try.prog 18 #[.slice a n c, fnZ f] w (ZRes B (nzF l) w) := by
  have HIX := indexZ_any f eg HC0 _ l w (own_ints_at hown) hl
  have HII : Hid (idxZI l = -1) := by show _ = _; unfold idxZI; rw [HI.out]
  rw [HII.out] at HIX
  have HIXH := Lib.hid HIX
  have HOWN := Lib.hid hown
  clear HIX hown
  unfold fnZ
  unfold fnZ at HIXH
  go_enter Try.func18, Try.ntmps18
  go_wp2_with fail
  refine HIXH.out.mono ?_
  rintro e w1 ⟨rfl, rfl⟩
  go_wp2
  go_ret
  refine ⟨_, rfl, ?_, Below.refl _ _, Nat.le_refl _⟩
  rw [HO.out]
  exact HOWN.out

theorem deleteZ_any (f : Nat) (eg : ∀ args w, (callFunc f args).run Try.prog w = .ok (.enter f args) w) (HC0 : Hid (ClosZ f)) (B : Nat) (v : Value) (l : List Int) (w : World) (hl : l.length ≤ 1000000)
    (hown : w.ownsRow B 3 1 v l.length (ints l)) :
    Calls Try.prog 18 #[v, fnZ f] w (ZRes B (nzF l) w) := by
  rcases idxZ_spec l with ⟨h1, h2⟩ | ⟨k, hk, h1, h2, h3⟩
  · obtain ⟨q, c, rfl, _⟩ := owns_slice hown
    exact deleteZ_none f eg HC0 B q _ c l w hl hown h1 (nzF_all h2)
  · obtain ⟨hlen, ⟨_, h0⟩ | ⟨g, cap, cur, rfl, hg, hh, hc, hm, hs, ht⟩⟩ := hown
    · omega
    · exact deleteZ_some f eg HC0 B g cap cur l _ k w hg rfl hl hc hm hh hs ht hk h1 h3 (fun _ => h2)

theorem closZ1 : ClosZ 19 := fun x w => by
  have HF : Hid (isZ x = (x == 0)) := rfl
  go_enter Try.func19, Try.ntmps19
  go_wp2
  go_ret
  rw [HF.out]
  exact ⟨rfl, rfl⟩
theorem closZ2 : ClosZ 20 := fun x w => by
  have HF : Hid (isZ x = (x == 0)) := rfl
  go_enter Try.func20, Try.ntmps20
  go_wp2
  go_ret
  rw [HF.out]
  exact ⟨rfl, rfl⟩
theorem closZ1_eg : ∀ args w, (callFunc 19 args).run Try.prog w = .ok (.enter 19 args) w := Go.Proofs.enters_of Try.func19 (by kernel_rfl) rfl
theorem closZ2_eg : ∀ args w, (callFunc 20 args).run Try.prog w = .ok (.enter 20 args) w := Go.Proofs.enters_of Try.func20 (by kernel_rfl) rfl

end Go.Proofs.Ytablomjaaifgfaa
