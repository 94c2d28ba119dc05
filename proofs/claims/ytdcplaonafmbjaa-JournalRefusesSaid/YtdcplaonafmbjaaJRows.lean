/- A slice of slices of puts that came in; whether each of them is light. -/
import Derived.Test.YtdcplaonafmbjaaOpenPuts
import Derived.Test.YtdcplaonafmbjaaProg
import Derived.LoopTactic
import Derived.WalkKit
namespace Go.Proofs.Ytdcplaonafmbjaa
open Go.ChangeShapes Go.WideShapes Go.ChangeAt Go.RowKit Go.Deep

abbrev PutL := List (Int × ByteArray)
def PutsRows (w : World) (v : Value) (L : List (Value × PutL)) : Prop := RowAt w v 1 L.length (L.map (·.1)) ∧ ∀ x ∈ L, PutsAt w x.1 x.2
theorem PutsRows.below {w w' : World} {v : Value} {L : List (Value × PutL)} (h : PutsRows w v L) (hb : Below w.heap.size w w') : PutsRows w' v L := ⟨RowAt.below h.1 hb, fun x hx => RowAt.below (h.2 x hx) hb⟩
theorem PutsRows.drew {w : World} {v : Value} {L : List (Value × PutL)} (h : PutsRows w v L) : PutsRows w.drew v L := h
/-- Puts in a slice, opened without its type's reach. -/
theorem open_putsTrod {H : Type} {enc' : TypeId × Value → H} {P : Program} {w : World} {base : Nat} {held : Bool} {fuel : Nat} {v : Value} {x : DataW H × List MemPlace} {t e : TypeId} {f0 f1 : Field}
    (ht : P.underlying t = some (.slice e)) (he : P.underlying e = some (.struct #[f0, f1])) (ce : P.cellsOf e = 2) (o0 : f0.offset = 0) (o1 : f1.offset = 1) (c0 : P.cellsOf f0.type = 1) (c1 : P.cellsOf f1.type = 1)
    (u0 : P.underlying f0.type = some (.int .i64)) (u1 : P.underlying f1.type = some .string)
    (hf : DataW.trod enc' P w base (fun _ => true) held fuel t [v] = some x) :
    ∃ l : PutL, PutsAt w v l ∧ l.length ≤ maxLen ∧ ∀ x, x ∈ l → x.2.size ≤ maxLen := by
  rcases open_slice_pairs ht he ce o0 o1 c0 c1 hf with ⟨h1, _⟩ | ⟨a, l0, cc0, m, n, V0, V1, D0, D1, P0, P1, h1, _, hlc, hcm, hm, _, hx⟩
  · injection h1 with h1 _
    subst h1
    exact ⟨[], ⟨rfl, Or.inl ⟨rfl, _, _, rfl⟩⟩, Nat.zero_le _, by simp⟩
  · injection h1 with h1 _
    subst h1
    simp only [if_true] at hm
    rcases Nat.eq_zero_or_pos l0 with h0 | h0
    · subst h0
      exact ⟨[], ⟨rfl, Or.inl ⟨rfl, _, _, rfl⟩⟩, Nat.zero_le _, by simp⟩
    · obtain ⟨g, off, spot⟩ := a
      have hs : spot = none := by
        have := World.cell?_spot (hx 0 (by omega)).1
        simpa [Addr.add] using this
      subst hs
      have hex : ∀ i, ∃ z : Int × ByteArray, i < l0 → w.cell? ⟨g, off + i * 2, none⟩ = some (.int .i64 z.1) ∧ w.cell? ⟨g, off + (i * 2 + 1), none⟩ = some (.string z.2) ∧ z.2.size ≤ maxLen := fun i => by
        by_cases hi : i < l0
        · obtain ⟨h2, h3, h4, h5⟩ := hx i (by omega)
          obtain ⟨z0, e0, _, w0⟩ := DataW.trod_int u0 h4
          obtain ⟨z1, e1, _, w1⟩ := DataW.trod_string u1 h5
          rw [add_plain] at h2 h3
          simp at e0 e1
          rw [e0] at h2
          rw [e1] at h3
          exact ⟨(z0, z1), fun _ => ⟨h2, h3, w1⟩⟩
        · exact ⟨(0, ByteArray.empty), fun h => absurd h hi⟩
      obtain ⟨Z, hZ⟩ := Classical.axiomOfChoice hex
      have hlen : ((List.range l0).map Z).length = l0 := by simp
      refine ⟨(List.range l0).map Z, ⟨by rw [puts_len], Or.inr ⟨g, off, cc0, by rw [hlen], fun j x hj => ?_⟩⟩, by rw [hlen]; omega, fun x hxm => ?_⟩
      · obtain ⟨k, hk, h2⟩ := puts_split _ j x hj
        have hk' : k < l0 := by rwa [hlen] at hk
        have h3 := hZ k hk'
        simp only [List.getElem_map, List.getElem_range] at h2
        rcases h2 with ⟨rfl, rfl⟩ | ⟨rfl, rfl⟩
        · exact h3.1
        · exact h3.2.1
      · obtain ⟨k, hk, rfl⟩ := List.mem_map.1 hxm
        exact (hZ k (by simpa using hk)).2.2
theorem open_putsRows {H : Type} {enc' : TypeId × Value → H} {P : Program} {w : World} {base : Nat} {held : Bool} {r : Reach} {b0 : Nat} {v : Value} {d : DataW H} {ps : List MemPlace} {tt t e : TypeId} {f0 f1 : Field}
    (htt : P.underlying tt = some (.slice t)) (ct : P.cellsOf t = 1)
    (ht : P.underlying t = some (.slice e)) (he : P.underlying e = some (.struct #[f0, f1])) (ce : P.cellsOf e = 2) (o0 : f0.offset = 0) (o1 : f1.offset = 1) (c0 : P.cellsOf f0.type = 1) (c1 : P.cellsOf f1.type = 1)
    (u0 : P.underlying f0.type = some (.int .i64)) (u1 : P.underlying f1.type = some .string)
    (hval : Value.okWide P w r b0 tt v) (hd : DataW.Trod enc' P w base (fun _ => true) held tt v d ps) :
    ∃ L : List (Value × PutL), PutsRows w v L ∧ L.length ≤ maxLen ∧ ∀ x ∈ L, x.2.length ≤ maxLen ∧ ∀ y, y ∈ x.2 → y.2.size ≤ maxLen := by
  obtain ⟨a0, l0, cc0, rfl⟩ := okWide_slice htt hval
  obtain ⟨fuel, hf⟩ := hd
  rcases open_slice htt hf with ⟨h1, _⟩ | ⟨a, len, cap, m, n, D, Pl, h1, _, hlc, hcm, hm, _, hx⟩
  · simp [Value.cells] at h1
    obtain ⟨rfl, rfl, rfl⟩ := h1
    exact ⟨[], ⟨⟨rfl, Or.inl ⟨rfl, _, _, rfl⟩⟩, by simp⟩, Nat.zero_le _, by simp⟩
  · simp [Value.cells] at h1
    obtain ⟨rfl, rfl, rfl⟩ := h1
    simp only [if_true] at hm
    rcases Nat.eq_zero_or_pos l0 with h0 | h0
    · subst h0
      exact ⟨[], ⟨⟨rfl, Or.inl ⟨rfl, _, _, rfl⟩⟩, by simp⟩, Nat.zero_le _, by simp⟩
    · have hone : ∀ i, i < l0 → ∃ z : Value × PutL, w.cell? (a.add i) = some z.1 ∧ PutsAt w z.1 z.2 ∧ z.2.length ≤ maxLen ∧ ∀ y, y ∈ z.2 → y.2.size ≤ maxLen := fun i hi => by
        obtain ⟨cs', h2, h3⟩ := hx i (by omega)
        rw [ct] at h2
        obtain ⟨_, hlen, hcell⟩ := World.cells?_some h2
        match cs', hlen with
        | [u], _ =>
          obtain ⟨l, h4, h5, h6⟩ := open_putsTrod ht he ce o0 o1 c0 c1 u0 u1 h3
          have h7 := hcell 0 (by omega)
          simp at h7
          exact ⟨(u, l), by simpa [Addr.add] using h7, h4, h5, h6⟩
      obtain ⟨g, off, spot⟩ := a
      have hs : spot = none := by
        obtain ⟨z, h2, _⟩ := hone 0 h0
        have := World.cell?_spot h2
        simpa [Addr.add] using this
      subst hs
      have hex : ∀ i, ∃ z : Value × PutL, i < l0 → w.cell? ⟨g, off + i, none⟩ = some z.1 ∧ PutsAt w z.1 z.2 ∧ z.2.length ≤ maxLen ∧ ∀ y, y ∈ z.2 → y.2.size ≤ maxLen := fun i => by
        by_cases hi : i < l0
        · obtain ⟨z, h2, h3⟩ := hone i hi
          rw [add_plain] at h2
          exact ⟨z, fun _ => ⟨h2, h3⟩⟩
        · exact ⟨(.slice none 0 0, []), fun h => absurd h hi⟩
      obtain ⟨Z, hZ⟩ := Classical.axiomOfChoice hex
      have hlen : ((List.range l0).map Z).length = l0 := by simp
      refine ⟨(List.range l0).map Z, ⟨⟨by simp, Or.inr ⟨g, off, cc0, by rw [hlen], fun j x hj => ?_⟩⟩, fun x hx => ?_⟩, by rw [hlen]; omega, fun x hxm => ?_⟩
      · have hj' := (List.getElem?_eq_some_iff.1 hj).1
        simp at hj'
        have := (hZ j hj').1
        rw [this]
        simp [hj'] at hj
        rw [hj]
      · obtain ⟨k, hk, rfl⟩ := List.mem_map.1 hx
        exact (hZ k (by simpa using hk)).2.1
      · obtain ⟨k, hk, rfl⟩ := List.mem_map.1 hxm
        exact (hZ k (by simpa using hk)).2.2

theorem rows_open {w : World} {v : Value} {L : List (Value × PutL)} (h : PutsRows w v L) : ∃ p cp, v = .slice p L.length cp ∧ Hid (0 < L.length → ∃ g o, p = some ⟨g, o, none⟩ ∧ g < w.heap.size ∧ ∀ k (hk : k < L.length), w.cell? ⟨g, o + k, none⟩ = some L[k].1) := by
  obtain ⟨⟨_, h1⟩, _⟩ := h
  rcases h1 with ⟨h0, a0, c0, rfl⟩ | ⟨g, o, cap, rfl, hc⟩
  · exact ⟨a0, c0, by rw [h0], fun h => by omega⟩
  · refine ⟨_, cap, rfl, fun h0 => ⟨g, o, rfl, block_lt_of_cell (hc 0 L[0].1 (by simp [h0])), fun k hk => hc _ _ (by simp [hk])⟩⟩
theorem puts_shape {w : World} {v : Value} {l : PutL} (h : PutsAt w v l) : ∃ p c, v = .slice p l.length c := by
  obtain ⟨p, c, h1, _⟩ := puts_open h l.length rfl
  exact ⟨p, c, h1⟩

def heavyB (l : PutL) : Bool := !(lightB l)
theorem heavyS_any (v : Value) (l : PutL) (w : World) (h : PutsAt w v l) (hl : l.length ≤ maxLen) (hs : ∀ x, x ∈ l → x.2.size ≤ maxLen) :
    Calls Try.prog 9 #[v] w fun e w' => e = .returned (.bool (heavyB l)) ∧ Below w.heap.size w w' := by
  have HL := Lib.hid (light_any v l w h hl hs)
  unfold heavyB
  generalize lightB l = b at HL ⊢
  clear h hl hs
  go_enter Try.func9, Try.ntmps9
  go_wp2_with fail
  refine HL.out.mono ?_
  rintro e w1 ⟨rfl, hb1⟩
  go_wp2
  go_ret
  exact ⟨rfl, hb1⟩
theorem heavyW_any (v : Value) (l : PutL) (w : World) (h : PutsAt w v l) (hl : l.length ≤ maxLen) (hs : ∀ x, x ∈ l → x.2.size ≤ maxLen) :
    Calls Try.prog 20 #[v] w fun e w' => e = .returned (.bool (heavyB l)) ∧ Below w.heap.size w w' := by
  have HL := Lib.hid (light_any v l w h hl hs)
  unfold heavyB
  generalize lightB l = b at HL ⊢
  clear h hl hs
  go_enter Try.func20, Try.ntmps20
  go_wp2_with fail
  refine HL.out.mono ?_
  rintro e w1 ⟨rfl, hb1⟩
  go_wp2
  go_ret
  exact ⟨rfl, hb1⟩

def anyHeavy (L : List (Value × PutL)) : Bool := L.any fun x => heavyB x.2
def IdxR (L : List (Value × PutL)) (w : World) (e : Ending) (w' : World) : Prop := ∃ r : Int, e = .returned (.int .i64 r) ∧ (0 ≤ r ↔ anyHeavy L = true) ∧ Below w.heap.size w w'
theorem scan_fid (args : Array Value) (w : World) : (callFunc 9 args).run Try.prog w = .ok (.enter 9 args) w := by simp [go_sem]
theorem whole_fid (args : Array Value) (w : World) : (callFunc 20 args).run Try.prog w = .ok (.enter 20 args) w := by simp [go_sem]
set_option maxRecDepth 100000 in
set_option maxHeartbeats 1000000 in
theorem idxR_any (fid : FuncId) (hfid : ∀ args w, (callFunc fid args).run Try.prog w = .ok (.enter fid args) w) (v : Value) (L : List (Value × PutL)) (w : World) (h : PutsRows w v L) (hl : L.length ≤ 1000000)
    (hf : ∀ x ∈ L, ∀ W : World, Below w.heap.size w W → Calls Try.prog fid #[x.1] W fun e w' => e = .returned (.bool (heavyB x.2)) ∧ Below W.heap.size W w') :
    Calls Try.prog 35 #[v, .func (.func fid) #[] #[]] w (IdxR L w) := by
  obtain ⟨p, cp, rfl, HP⟩ := rows_open h
  obtain ⟨N, HN⟩ : ∃ N, Hid (L.length = N) := ⟨_, rfl⟩
  have HF := Lib.hid hf
  have HS := Lib.hid (fun k (hk : k < L.length) => puts_shape (h.2 L[k] (List.getElem_mem hk)))
  rw [HN.out] at hl
  have hv : Value.slice p L.length cp = .slice p N cp := by rw [HN.out]
  rw [hv]
  clear h hf hv
  go_enter Try.func35, Try.ntmps35
  go_wp2
  go_loopw [8] (fun i wr => ∃ k : Nat, k ≤ N ∧ i = .int .i64 k ∧ Hid (anyHeavy (L.take k) = false) ∧ Below w.heap.size w wr) (fun i _ => N - (intOf i).toNat)
  case atStart => exact ⟨0, Nat.zero_le _, rfl, rfl, Below.refl _ _⟩
  case round =>
    obtain ⟨k, hk, rfl, HK, HB⟩ := hrel
    by_cases hlt : k < N
    · obtain ⟨g, o, rfl, hg, hc⟩ := HP.out (by rw [HN.out]; omega)
      have hkl : k < L.length := by rw [HN.out]; exact hlt
      have hck := hc k hkl
      obtain ⟨px, cx, hx⟩ := HS.out k hkl
      have hcall := HF.out L[k] (List.getElem_mem hkl) _ HB
      rw [hx] at hck hcall
      obtain ⟨M, HM⟩ : ∃ M, Hid (L[k].2.length = M) := ⟨L[k].2.length, rfl⟩
      rw [HM.out] at hck hcall
      have c1 := (HB.cell (p := ⟨g, o + k, none⟩) hg).trans hck
      obtain ⟨b, Hb⟩ : ∃ b, Hid (heavyB L[k].2 = b) := ⟨heavyB L[k].2, rfl⟩
      rw [Hb.out] at hcall
      have HT : Hid (anyHeavy (L.take (k + 1)) = b) := by
        show _ = _
        unfold anyHeavy
        rw [← List.take_append_getElem hkl, List.any_append]
        show (anyHeavy (L.take k) || _) = _
        rw [HK.out, ← Hb.out]
        simp
      have HA : Hid (b = true → anyHeavy L = true) := fun hb => by
        unfold anyHeavy
        rw [List.any_eq_true]
        exact ⟨L[k], List.getElem_mem hkl, by rw [Hb.out, hb]⟩
      have HC := Lib.hid hcall
      clear hc hck hcall hx
      have hlt2 : (k : Int) < (N : Int) := by omega
      go_wp2_with fail
      refine HC.out.mono ?_
      rintro e w1 ⟨rfl, hb1⟩
      have hB1 := Below.step HB hb1
      clear hb1
      cases b with
      | true =>
        go_wp2
        go_ret
        exact ⟨k, rfl, ⟨fun _ => HA.out trivial, fun _ => by omega⟩, hB1⟩
      | false =>
        go_wp2
        go_roundw
        case rel => exact ⟨k + 1, by omega, by go_num, HT, hB1⟩
        case measure => simp [intOf]; omega
    · have HE : Hid (anyHeavy L = false) := by
        have := HK.out
        rw [List.take_of_length_le (by rw [HN.out]; omega)] at this
        exact this
      go_wp2
      go_ret
      exact ⟨-1, rfl, ⟨fun h => by omega, fun h => by rw [HE.out] at h; cases h⟩, HB⟩

set_option maxRecDepth 100000 in
set_option maxHeartbeats 1000000 in
theorem inR_any (fid : FuncId) (hfid : ∀ args w, (callFunc fid args).run Try.prog w = .ok (.enter fid args) w) (v : Value) (L : List (Value × PutL)) (w : World) (h : PutsRows w v L) (hl : L.length ≤ 1000000)
    (hf : ∀ x ∈ L, ∀ W : World, Below w.heap.size w W → Calls Try.prog fid #[x.1] W fun e w' => e = .returned (.bool (heavyB x.2)) ∧ Below W.heap.size W w') :
    Calls Try.prog 8 #[v, .func (.func fid) #[] #[]] w fun e w' => e = .returned (.bool (anyHeavy L)) ∧ Below w.heap.size w w' := by
  have HI := Lib.hid (idxR_any fid hfid v L w h hl hf)
  clear h hf hfid
  go_enter Try.func8, Try.ntmps8
  go_wp2_with fail
  refine HI.out.mono ?_
  rintro e w1 ⟨r, rfl, hr, hb⟩
  have HR := Lib.hid hr
  clear hr
  go_wp2
  go_ret
  refine ⟨?_, hb⟩
  have : anyHeavy L = decide (0 ≤ r) := by
    rw [Bool.eq_iff_iff]; simp [HR.out]
  rw [this]; rfl

end Go.Proofs.Ytdcplaonafmbjaa
