/- An inode that came in as an argument (where there are no bytes). -/
import Derived.Test.YtablomjaaifgfaaOpenInts
import Derived.Deep.SlicePairs
import Derived.Lib.SmallJoins
namespace Go.Proofs.Ytablomjaaifgfaa
open Go.Joins Go.ChangeShapes Go.WideShapes Go.ChangeAt Go.RowKit Go.Deep

theorem i64_of_wf {n : Int} (h : (Lit.int .i64 n).wf = true) : -9223372036854775808 ≤ n ∧ n ≤ 9223372036854775807 := by
  simp only [Lit.wf, IntKind.min, IntKind.max, IntKind.signed, IntKind.bits, Bool.and_eq_true, decide_eq_true_eq] at h
  simp at h
  omega

theorem trod_intsAt {H : Type} {enc' : TypeId × Value → H} {w : World} {base : Nat} {held : Bool} {fuel : Nat} {v : Value} {x : DataW H × List MemPlace}
    (hf : DataW.trod enc' Try.prog w base (fun _ => true) held fuel 22 [v] = some x) : ∃ l, IntsAt w v l ∧ l.length ≤ maxLen := by
  have ht : Try.prog.underlying 22 = some (.slice 3) := by kernel_rfl
  have he : Try.prog.underlying 3 = some (.int .i64) := by kernel_rfl
  have hc : Try.prog.cellsOf 3 = 1 := by kernel_rfl
  rcases open_ints ht he hc hf with ⟨h1, _⟩ | ⟨a, len, cap, zs, h1, _, hlc, hcm, hz, _, hcell, _⟩
  · injection h1 with h1 _
    subst h1
    exact ⟨[], ⟨rfl, Or.inl ⟨rfl, _, _, rfl⟩⟩, Nat.zero_le _⟩
  · injection h1 with h1 _
    subst h1
    simp only [if_true] at hz
    rcases Nat.eq_zero_or_pos len with h0 | h0
    · subst h0
      exact ⟨[], ⟨rfl, Or.inl ⟨rfl, _, _, rfl⟩⟩, Nat.zero_le _⟩
    · obtain ⟨g, off, spot⟩ := a
      have hs : spot = none := by
        have := World.cell?_spot (hcell 0 (by omega))
        simpa [Addr.add] using this
      subst hs
      refine ⟨zs.take len, intsAt_of (by omega) (fun i hi => ?_), by rw [List.length_take]; omega⟩
      have := hcell i hi
      rwa [add_plain] at this

theorem open_nodeAt {H : Type} {enc' : TypeId × Value → H} {P : Program} (hP : P = Try.prog) {w : World} {base : Nat} {held : Bool} {r : Reach} {b0 : Nat} {v : Value} {d : DataW H} {ps : List MemPlace} {t : TypeId} {f0 f1 f2 f3 f4 f5 f6 f7 : Field}
    (hs : P.underlying t = some (.struct #[f0, f1, f2, f3, f4, f5, f6, f7])) (hone : oneCellFields P #[f0, f1, f2, f3, f4, f5, f6, f7] = true) (hC : P.cellsOf t = 8)
    (u0 : f0.type = 3) (u1 : f1.type = 3) (u2 : f2.type = 3) (u3 : f3.type = 3) (u4 : f4.type = 3) (u5 : f5.type = 3) (u6 : f6.type = 3) (u7 : f7.type = 22)
    (hv : Value.okWide P w r b0 t v) (h : DataW.Trod enc' P w base (fun _ => true) held t v d ps) :
    ∃ (k m u g s l up : Int) (vs : Value) (Q : List Int), v = .agg #[.int .i64 k, .int .i64 m, .int .i64 u, .int .i64 g, .int .i64 s, .int .i64 l, .int .i64 up, vs] ∧ IntsAt w vs Q ∧ Q.length ≤ maxLen ∧ (-9223372036854775808 ≤ s ∧ s ≤ 9223372036854775807) := by
  subst hP
  obtain ⟨cs, rfl, hsz⟩ := okWide_struct hs hv
  obtain ⟨L⟩ := cs
  match L, hsz.trans hC with
  | [c0, c1, c2, c3, c4, c5, c6, c7], _ =>
    obtain ⟨fuel, hf⟩ := h
    obtain ⟨xs, n, _, hx, _, hlen, hg⟩ := DataW.trod_struct hs hf
    obtain ⟨o0, k0⟩ := hone_of hone 0 f0 rfl
    obtain ⟨o1, k1⟩ := hone_of hone 1 f1 rfl
    obtain ⟨o2, k2⟩ := hone_of hone 2 f2 rfl
    obtain ⟨o3, k3⟩ := hone_of hone 3 f3 rfl
    obtain ⟨o4, k4⟩ := hone_of hone 4 f4 rfl
    obtain ⟨o5, k5⟩ := hone_of hone 5 f5 rfl
    obtain ⟨o6, k6⟩ := hone_of hone 6 f6 rfl
    obtain ⟨o7, k7⟩ := hone_of hone 7 f7 rfl
    match xs, hlen with
    | [y0, y1, y2, y3, y4, y5, y6, y7], _ =>
      have t0 : DataW.trod enc' Try.prog w base (fun _ => true) held n f0.type [c0] = some y0 := by simpa [Value.cells, o0, k0] using hg 0 f0 rfl
      have t1 : DataW.trod enc' Try.prog w base (fun _ => true) held n f1.type [c1] = some y1 := by simpa [Value.cells, o1, k1] using hg 1 f1 rfl
      have t2 : DataW.trod enc' Try.prog w base (fun _ => true) held n f2.type [c2] = some y2 := by simpa [Value.cells, o2, k2] using hg 2 f2 rfl
      have t3 : DataW.trod enc' Try.prog w base (fun _ => true) held n f3.type [c3] = some y3 := by simpa [Value.cells, o3, k3] using hg 3 f3 rfl
      have t4 : DataW.trod enc' Try.prog w base (fun _ => true) held n f4.type [c4] = some y4 := by simpa [Value.cells, o4, k4] using hg 4 f4 rfl
      have t5 : DataW.trod enc' Try.prog w base (fun _ => true) held n f5.type [c5] = some y5 := by simpa [Value.cells, o5, k5] using hg 5 f5 rfl
      have t6 : DataW.trod enc' Try.prog w base (fun _ => true) held n f6.type [c6] = some y6 := by simpa [Value.cells, o6, k6] using hg 6 f6 rfl
      have t7 : DataW.trod enc' Try.prog w base (fun _ => true) held n f7.type [c7] = some y7 := by simpa [Value.cells, o7, k7] using hg 7 f7 rfl
      have ui : Try.prog.underlying 3 = some (.int .i64) := by kernel_rfl
      rw [u0] at t0
      rw [u1] at t1
      rw [u2] at t2
      rw [u3] at t3
      rw [u4] at t4
      rw [u5] at t5
      rw [u6] at t6
      rw [u7] at t7
      obtain ⟨z0, e0, _, w0⟩ := DataW.trod_int ui t0
      obtain ⟨z1, e1, _, w1⟩ := DataW.trod_int ui t1
      obtain ⟨z2, e2, _, w2⟩ := DataW.trod_int ui t2
      obtain ⟨z3, e3, _, w3⟩ := DataW.trod_int ui t3
      obtain ⟨z4, e4, _, w4⟩ := DataW.trod_int ui t4
      obtain ⟨z5, e5, _, w5⟩ := DataW.trod_int ui t5
      obtain ⟨z6, e6, _, w6⟩ := DataW.trod_int ui t6
      obtain ⟨Q, hQ, hQl⟩ := trod_intsAt t7
      simp at e0 e1 e2 e3 e4 e5 e6
      subst e0 e1 e2 e3 e4 e5 e6
      exact ⟨z0, z1, z2, z3, z4, z5, z6, c7, Q, rfl, hQ, hQl, i64_of_wf w4⟩

end Go.Proofs.Ytablomjaaifgfaa
