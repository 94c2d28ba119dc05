/- Slices of inodes and of entries, and an entry, that came in as arguments. -/
import Derived.Test.YtablomjaaifgfaaOrNames
import Derived.Test.YtablomjaaifgfaaOpenNode2
import Derived.Test.YtablomjaaifgfaaOwn
import Derived.Deep.SlicePairs
import Derived.Deep.Slices
import Derived.Deep.Grids
namespace Go.Proofs.Ytablomjaaifgfaa
open Go.Joins Go.ChangeShapes Go.WideShapes Go.ChangeAt Go.RowKit Go.Deep

theorem ents_split (l : List En) (j : Nat) (x : Value) (h : (ents l)[j]? = some x) : ∃ k, ∃ hk : k < l.length, (j = k * 2 ∧ x = .string l[k].1) ∨ (j = k * 2 + 1 ∧ x = .int .i64 l[k].2) := by
  have hl := (List.getElem?_eq_some_iff.1 h).1
  rw [ents_len] at hl
  have hk : j / 2 < l.length := by omega
  have hp := ents_get l (j / 2) hk
  refine ⟨j / 2, hk, ?_⟩
  by_cases he : j % 2 = 0
  · have e : j = j / 2 * 2 := by omega
    rw [← e, h] at hp
    exact Or.inl ⟨e, by simpa using hp.1⟩
  · have e : j = j / 2 * 2 + 1 := by omega
    rw [← e, h] at hp
    exact Or.inr ⟨e, by simpa using hp.2⟩

theorem open_entsAt {H : Type} {enc' : TypeId × Value → H} {P : Program} {w : World} {base : Nat} {held : Bool} {r : Reach} {b0 : Nat} {v : Value} {d : DataW H} {ps : List MemPlace} {t e : TypeId} {f0 f1 : Field}
    (ht : P.underlying t = some (.slice e)) (he : P.underlying e = some (.struct #[f0, f1])) (ce : P.cellsOf e = 2) (o0 : f0.offset = 0) (o1 : f1.offset = 1) (c0 : P.cellsOf f0.type = 1) (c1 : P.cellsOf f1.type = 1)
    (u0 : P.underlying f0.type = some .string) (u1 : P.underlying f1.type = some (.int .i64))
    (hval : Value.okWide P w r b0 t v) (hd : DataW.Trod enc' P w base (fun _ => true) held t v d ps) :
    ∃ l : List En, EntsAt w v l ∧ l.length ≤ maxLen ∧ ∀ x, x ∈ l → x.1.size ≤ maxLen := by
  obtain ⟨a0, l0, cc0, rfl⟩ := okWide_slice ht hval
  obtain ⟨fuel, hf⟩ := hd
  rcases open_slice_pairs ht he ce o0 o1 c0 c1 hf with ⟨h1, _⟩ | ⟨a, len, cap, m, n, V0, V1, D0, D1, P0, P1, h1, _, hlc, hcm, hm, _, hx⟩
  · simp [Value.cells] at h1
    obtain ⟨rfl, rfl, rfl⟩ := h1
    exact ⟨[], ⟨rfl, Or.inl ⟨rfl, _, _, rfl⟩⟩, Nat.zero_le _, by simp⟩
  · simp [Value.cells] at h1
    obtain ⟨rfl, rfl, rfl⟩ := h1
    simp only [if_true] at hm
    rcases Nat.eq_zero_or_pos l0 with h0 | h0
    · subst h0
      exact ⟨[], ⟨rfl, Or.inl ⟨rfl, _, _, rfl⟩⟩, Nat.zero_le _, by simp⟩
    · obtain ⟨g, off, spot⟩ := a
      have hs : spot = none := by
        have := World.cell?_spot (hx 0 (by omega)).1
        simpa [Addr.add] using this
      subst hs
      have hex : ∀ i, ∃ z : En, i < l0 → w.cell? ⟨g, off + i * 2, none⟩ = some (.string z.1) ∧ w.cell? ⟨g, off + (i * 2 + 1), none⟩ = some (.int .i64 z.2) ∧ z.1.size ≤ maxLen := fun i => by
        by_cases hi : i < l0
        · obtain ⟨h2, h3, h4, h5⟩ := hx i (by omega)
          obtain ⟨z0, e0, _, w0⟩ := DataW.trod_string u0 h4
          obtain ⟨z1, e1, _, w1⟩ := DataW.trod_int u1 h5
          rw [add_plain] at h2 h3
          simp at e0 e1
          rw [e0] at h2
          rw [e1] at h3
          exact ⟨(z0, z1), fun _ => ⟨h2, h3, w0⟩⟩
        · exact ⟨(ByteArray.empty, 0), fun h => absurd h hi⟩
      obtain ⟨Z, hZ⟩ := Classical.axiomOfChoice hex
      have hlen : ((List.range l0).map Z).length = l0 := by simp
      refine ⟨(List.range l0).map Z, ⟨by rw [ents_len], Or.inr ⟨g, off, cc0, by rw [hlen], fun j x hj => ?_⟩⟩, by rw [hlen]; omega, fun x hxm => ?_⟩
      · obtain ⟨k, hk, h2⟩ := ents_split _ j x hj
        have hk' : k < l0 := by rwa [hlen] at hk
        have h3 := hZ k hk'
        simp only [List.getElem_map, List.getElem_range] at h2
        rcases h2 with ⟨rfl, rfl⟩ | ⟨rfl, rfl⟩
        · exact h3.1
        · exact h3.2.1
      · obtain ⟨k, hk, rfl⟩ := List.mem_map.1 hxm
        exact (hZ k (by simpa using hk)).2.2


theorem node_of_cells {H : Type} {enc' : TypeId × Value → H} {P : Program} (hP : P = Try.prog) {w : World} {base : Nat} {held : Bool} {fuel : Nat} {L : List Value} {x : DataW H × List MemPlace} {t : TypeId} {f0 f1 f2 f3 f4 f5 f6 f7 : Field}
    (hs : P.underlying t = some (.struct #[f0, f1, f2, f3, f4, f5, f6, f7])) (hone : oneCellFields P #[f0, f1, f2, f3, f4, f5, f6, f7] = true)
    (u0 : f0.type = 3) (u1 : f1.type = 3) (u2 : f2.type = 3) (u3 : f3.type = 3) (u4 : f4.type = 3) (u5 : f5.type = 3) (u6 : f6.type = 3) (u7 : f7.type = 22)
    (hl : L.length = 8) (hf : DataW.trod enc' P w base (fun _ => true) held fuel t L = some x) : ∃ z : Nd, L = nd8 z := by
  subst hP
  match L, hl with
  | [c0, c1, c2, c3, c4, c5, c6, c7], _ =>
    obtain ⟨xs, n, _, hx, _, hlen, hg⟩ := DataW.trod_struct hs hf
    obtain ⟨o0, k0⟩ := hone_of hone 0 f0 rfl
    obtain ⟨o1, k1⟩ := hone_of hone 1 f1 rfl
    obtain ⟨o2, k2⟩ := hone_of hone 2 f2 rfl
    obtain ⟨o3, k3⟩ := hone_of hone 3 f3 rfl
    obtain ⟨o4, k4⟩ := hone_of hone 4 f4 rfl
    obtain ⟨o5, k5⟩ := hone_of hone 5 f5 rfl
    obtain ⟨o6, k6⟩ := hone_of hone 6 f6 rfl
    obtain ⟨o7, k7⟩ := hone_of hone 7 f7 rfl
    match xs, hlen with
    | [y0, y1, y2, y3, y4, y5, y6, y7], _ =>
      have t0 : DataW.trod enc' Try.prog w base (fun _ => true) held n f0.type [c0] = some y0 := by simpa [Value.cells, o0, k0] using hg 0 f0 rfl
      have t1 : DataW.trod enc' Try.prog w base (fun _ => true) held n f1.type [c1] = some y1 := by simpa [Value.cells, o1, k1] using hg 1 f1 rfl
      have t2 : DataW.trod enc' Try.prog w base (fun _ => true) held n f2.type [c2] = some y2 := by simpa [Value.cells, o2, k2] using hg 2 f2 rfl
      have t3 : DataW.trod enc' Try.prog w base (fun _ => true) held n f3.type [c3] = some y3 := by simpa [Value.cells, o3, k3] using hg 3 f3 rfl
      have t4 : DataW.trod enc' Try.prog w base (fun _ => true) held n f4.type [c4] = some y4 := by simpa [Value.cells, o4, k4] using hg 4 f4 rfl
      have t5 : DataW.trod enc' Try.prog w base (fun _ => true) held n f5.type [c5] = some y5 := by simpa [Value.cells, o5, k5] using hg 5 f5 rfl
      have t6 : DataW.trod enc' Try.prog w base (fun _ => true) held n f6.type [c6] = some y6 := by simpa [Value.cells, o6, k6] using hg 6 f6 rfl
      have t7 : DataW.trod enc' Try.prog w base (fun _ => true) held n f7.type [c7] = some y7 := by simpa [Value.cells, o7, k7] using hg 7 f7 rfl
      have ui : Try.prog.underlying 3 = some (.int .i64) := by kernel_rfl
      rw [u0] at t0
      rw [u1] at t1
      rw [u2] at t2
      rw [u3] at t3
      rw [u4] at t4
      rw [u5] at t5
      rw [u6] at t6
      rw [u7] at t7
      obtain ⟨z0, e0, _, w0⟩ := DataW.trod_int ui t0
      obtain ⟨z1, e1, _, w1⟩ := DataW.trod_int ui t1
      obtain ⟨z2, e2, _, w2⟩ := DataW.trod_int ui t2
      obtain ⟨z3, e3, _, w3⟩ := DataW.trod_int ui t3
      obtain ⟨z4, e4, _, w4⟩ := DataW.trod_int ui t4
      obtain ⟨z5, e5, _, w5⟩ := DataW.trod_int ui t5
      obtain ⟨z6, e6, _, w6⟩ := DataW.trod_int ui t6
      obtain ⟨Q, hQ, hQl⟩ := trod_intsAt t7
      simp at e0 e1 e2 e3 e4 e5 e6
      subst e0 e1 e2 e3 e4 e5 e6
      obtain ⟨_, ⟨_, a7, n7, rfl⟩ | ⟨g7, o7, n7, rfl, _⟩⟩ := hQ
      · exact ⟨⟨z0, z1, z2, z3, z4, z5, z6, a7, 0, n7⟩, rfl⟩
      · exact ⟨⟨z0, z1, z2, z3, z4, z5, z6, _, _, n7⟩, rfl⟩

theorem ncells_split (E : List Nd) (j : Nat) (x : Value) (h : (ncells E)[j]? = some x) : ∃ k, ∃ hk : k < E.length, j = k * 8 + j % 8 ∧ (nd8 E[k])[j % 8]? = some x := by
  have hl := (List.getElem?_eq_some_iff.1 h).1
  rw [ncells_len] at hl
  have hk : j / 8 < E.length := by omega
  have e : j = j / 8 * 8 + j % 8 := by omega
  refine ⟨j / 8, hk, e, ?_⟩
  rw [← ncells_get E (j / 8) hk (j % 8) (by omega), ← e]
  exact h
theorem open_nodesAt {H : Type} {enc' : TypeId × Value → H} {P : Program} (hP : P = Try.prog) {w : World} {base : Nat} {held : Bool} {r : Reach} {b0 : Nat} {v : Value} {d : DataW H} {ps : List MemPlace} {t e : TypeId} {f0 f1 f2 f3 f4 f5 f6 f7 : Field}
    (ht : P.underlying t = some (.slice e)) (hs : P.underlying e = some (.struct #[f0, f1, f2, f3, f4, f5, f6, f7])) (hone : oneCellFields P #[f0, f1, f2, f3, f4, f5, f6, f7] = true) (hC : P.cellsOf e = 8)
    (u0 : f0.type = 3) (u1 : f1.type = 3) (u2 : f2.type = 3) (u3 : f3.type = 3) (u4 : f4.type = 3) (u5 : f5.type = 3) (u6 : f6.type = 3) (u7 : f7.type = 22)
    (hval : Value.okWide P w r b0 t v) (hd : DataW.Trod enc' P w base (fun _ => true) held t v d ps) : ∃ E : List Nd, RowAt w v 8 E.length (ncells E) ∧ E.length ≤ maxLen := by
  obtain ⟨a0, l0, cc0, rfl⟩ := okWide_slice ht hval
  obtain ⟨fuel, hf⟩ := hd
  rcases open_slice ht hf with ⟨h1, _⟩ | ⟨a, len, cap, m, n, D, Pl, h1, _, hlc, hcm, hm, _, hx⟩
  · simp [Value.cells] at h1
    obtain ⟨rfl, rfl, rfl⟩ := h1
    exact ⟨[], ⟨rfl, Or.inl ⟨rfl, _, _, rfl⟩⟩, Nat.zero_le _⟩
  · simp [Value.cells] at h1
    obtain ⟨rfl, rfl, rfl⟩ := h1
    simp only [if_true] at hm
    rw [hC] at hx
    rcases Nat.eq_zero_or_pos l0 with h0 | h0
    · subst h0
      exact ⟨[], ⟨rfl, Or.inl ⟨rfl, _, _, rfl⟩⟩, Nat.zero_le _⟩
    · obtain ⟨g, off, spot⟩ := a
      have hex : ∀ i, ∃ z : Nd, i < l0 → ∀ q, q < 8 → w.cell? ((⟨g, off, spot⟩ : Addr).add (i * 8) |>.add q) = (nd8 z)[q]? := fun i => by
        by_cases hi : i < l0
        · obtain ⟨cs', h2, h3⟩ := hx i (by omega)
          obtain ⟨_, hl8, hc⟩ := World.cells?_some h2
          obtain ⟨z, hz⟩ := node_of_cells hP hs hone u0 u1 u2 u3 u4 u5 u6 u7 hl8 h3
          exact ⟨z, fun _ q hq => by rw [hc q hq, hz]⟩
        · exact ⟨⟨0, 0, 0, 0, 0, 0, 0, none, 0, 0⟩, fun h => absurd h hi⟩
      obtain ⟨Zf, hZ⟩ := Classical.axiomOfChoice hex
      have hsp : spot = none := by
        have h2 := hZ 0 h0 0 (by omega)
        rw [show (nd8 (Zf 0))[0]? = some (.int .i64 (Zf 0).k) from rfl] at h2
        have := World.cell?_spot h2
        simpa [Addr.add] using this
      subst hsp
      have hlen : ((List.range l0).map Zf).length = l0 := by simp
      refine ⟨(List.range l0).map Zf, ⟨by rw [ncells_len], Or.inr ⟨g, off, cc0, by rw [hlen], fun j x hj => ?_⟩⟩, by rw [hlen]; omega⟩
      obtain ⟨k, hk, he, h2⟩ := ncells_split _ j x hj
      have hk' : k < l0 := by rwa [hlen] at hk
      simp only [List.getElem_map, List.getElem_range] at h2
      have h3 := hZ k hk' (j % 8) (by omega)
      rw [add_plain, add_plain, Nat.add_assoc, ← he] at h3
      rw [h3]; exact h2

theorem open_entAt {H : Type} {enc' : TypeId × Value → H} {P : Program} {w : World} {base : Nat} {held : Bool} {r : Reach} {b0 : Nat} {v : Value} {d : DataW H} {ps : List MemPlace} {t : TypeId} {f0 f1 : Field}
    (hs : P.underlying t = some (.struct #[f0, f1])) (hone : oneCellFields P #[f0, f1] = true) (hC : P.cellsOf t = 2) (u0 : P.underlying f0.type = some .string) (u1 : P.underlying f1.type = some (.int .i64))
    (hv : Value.okWide P w r b0 t v) (h : DataW.Trod enc' P w base (fun _ => true) held t v d ps) : ∃ (s : ByteArray) (n : Int), v = .agg #[.string s, .int .i64 n] ∧ s.size ≤ maxLen ∧ (-9223372036854775808 ≤ n ∧ n ≤ 9223372036854775807) := by
  obtain ⟨cs, rfl, hsz⟩ := okWide_struct hs hv
  obtain ⟨L⟩ := cs
  match L, hsz.trans hC with
  | [c0, c1], _ =>
    obtain ⟨fuel, hf⟩ := h
    obtain ⟨xs, n, _, hx, _, hlen, hg⟩ := DataW.trod_struct hs hf
    obtain ⟨o0, k0⟩ := hone_of hone 0 f0 rfl
    obtain ⟨o1, k1⟩ := hone_of hone 1 f1 rfl
    match xs, hlen with
    | [y0, y1], _ =>
      have t0 : DataW.trod enc' P w base (fun _ => true) held n f0.type [c0] = some y0 := by simpa [Value.cells, o0, k0] using hg 0 f0 rfl
      have t1 : DataW.trod enc' P w base (fun _ => true) held n f1.type [c1] = some y1 := by simpa [Value.cells, o1, k1] using hg 1 f1 rfl
      obtain ⟨z0, e0, _, w0⟩ := DataW.trod_string u0 t0
      obtain ⟨z1, e1, _, w1⟩ := DataW.trod_int u1 t1
      simp at e0 e1
      subst e0 e1
      exact ⟨z0, z1, rfl, w0, i64_of_wf w1⟩

end Go.Proofs.Ytablomjaaifgfaa
