/- dir.List: the walk over the tree, which reads entry after entry. -/
import Derived.Test.YtheiaebmemcbhaaDoorDirRow
import Derived.Deep.AppendLies
import Derived.BigRegion
namespace Go.Proofs.YtheiaebmemcbhaaDoor
open Go.RowKit

section
variable {P : Program} {o : Oper} {a : Act} {w : World} {K : Act → World → Prop} {Q : Exit → Act → World → Prop}
/-- A call of a function of the program, as a step of a region that draws its order. -/
theorem step_callD {ops : Array Oper} {X : Prop} (hgd : o.guard = none) (f : FuncId) (xs : Array Operand) (ats : Array TypeId) (ho : o.op = .call { callee := .value (.func f), args := xs, argTypes := ats })
    (hf : ∀ args w, (callFunc f args).run P w = .ok (.enter f args) w) (args : Array Value) (hargs : #[] ++ xs.map a.eval ++ #[] = args) (R : Value → World → Prop)
    (hc : Calls P f args w fun e w' => ∃ v, e = .returned v ∧ R v w') (h : ∀ v w', R v w' → K (a.put o.dst v) w') : if Region.wanted o (yielded ops a.tmps) = true then Oper.wp P o a w K Q else X := by
  rw [if_pos (by simp [Region.wanted, hgd])]
  have e : execOp a.eval o = callFunc f (#[] ++ xs.map a.eval ++ #[]) := by
    obtain ⟨dst, op, ty, pos, after, guard⟩ := o
    simp only at ho
    subst ho
    rfl
  unfold Oper.wp
  rw [e, hargs, hf]
  exact hc.mono fun e w' ⟨v, he, hr⟩ => by subst he; exact h v w' hr
end

theorem frozen_alloc_lt' (w : World) (o : Obj) (p : Addr) (h : p.block < w.heap.size) : (w.alloc o).frozen? p = w.frozen? p := ((Below.refl w.heap.size w).alloc (Nat.le_refl _) o).frozen h
/-- What the walk works on: the entries read so far. -/
structure ListAt (w0 : World) (gn gy go gb n : Nat) (v : Value) (outs : List En) (w : World) : Prop where
  z : w0.heap.size ≤ gn ∧ w0.heap.size ≤ gy ∧ w0.heap.size ≤ go ∧ w0.heap.size ≤ gb
  n : w.heap[gn]? = some (.cells #[.int .i64 (n : Int)] 3 (0, 0))
  y : w.heap[gy]? = some (.cells #[.func (.func 33) #[] #[.pointer (some ⟨gn, 0, none⟩), .pointer (some ⟨gy, 0, none⟩), .pointer (some ⟨go, 0, none⟩), .pointer (some ⟨gb, 0, none⟩)]] 55 (0, 0))
  b : w.heap[gb]? = some (.cells #[v] 25 (0, 0))
  o : ∃ ov, w.heap[go]? = some (.cells #[ov] 22 (0, 0)) ∧ w.ownsRow w0.heap.size 33 2 ov outs.length (ents outs)
  hb : Below w0.heap.size w0 w
def ListRes (w0 : World) (gn gy go gb n : Nat) (v : Value) (D : List Int) (outs : List En) (at_ : Nat) (e : Ending) (w' : World) : Prop :=
  e = .returned (.tuple #[]) ∧ ListAt w0 gn gy go gb n v (outs ++ (ino n at_).map (rdE D)) w'
/-- An entry more. -/
theorem ListAt.snoc {w0 w wR w4 : World} {gn gy go gb n gg cap m : Nat} {v ov : Value} {outs : List En} {cs : Array Value} (h : ListAt w0 gn gy go gb n v outs w) (ho : w.heap[go]? = some (.cells #[ov] 22 (0, 0))) (hov : w.ownsRow w0.heap.size 33 2 ov outs.length (ents outs))
    (hb : Below w.heap.size w wR) (x : En) (hm : outs.length + 1 = m) (hown : w4.ownsRow w0.heap.size 33 2 (.slice (some ⟨gg, 0, none⟩) m cap) m (ents outs ++ [.string x.1, .int .i64 x.2]))
    (hg : (wR.alloc (.cells cs 33)).grownBy w4 ov.ownBlock) : ListAt w0 gn gy go gb n v (outs ++ [x]) (w4.setCell ⟨go, 0, none⟩ (.slice (some ⟨gg, 0, none⟩) m cap)) := by
  have k4 : ∀ (i : Nat) (c : Array Value) (t : TypeId), w.heap[i]? = some (.cells c t (0, 0)) → t ≠ 33 → w4.heap[i]? = some (.cells c t (0, 0)) := fun i c t hi ht => by
    have h1 := (hb.block i (heap_lt hi)).trans hi
    have h2 := heap_alloc_keep h1 (.cells cs 33)
    exact (hg.block i (heap_lt h2) (fun e => own_ne hov hi (Ne.symm ht) e.symm)).trans h2
  have k5 : ∀ (i : Nat) (c : Array Value) (t : TypeId), w.heap[i]? = some (.cells c t (0, 0)) → t ≠ 33 → t ≠ 22 → (w4.setCell ⟨go, 0, none⟩ (.slice (some ⟨gg, 0, none⟩) m cap)).heap[i]? = some (.cells c t (0, 0)) := fun i c t hi ht ht2 => by
    rw [Below.heap_setCell _ _ _ _ (ne_of_type hi ho ht2)]
    exact k4 i c t hi ht
  have hgo := k4 go _ _ ho (by decide)
  have hz : w0.heap.size ≤ wR.heap.size := Nat.le_trans h.hb.size hb.size
  have hb4 : Below w0.heap.size w0 w4 := Below.grown ((Below.step h.hb hb).alloc hz _) hg (by simp only [alloc_size]; omega) (fun q hq => by
    obtain ⟨_, ⟨hv, _⟩ | ⟨g, cap, cur, hv, hg, _⟩⟩ := hov
    · rw [hv] at hq; simp [Value.ownBlock] at hq
    · rw [hv] at hq
      have : g = q := by simpa [Value.ownBlock] using hq
      rw [← this]; exact hg)
  have hown2 : w4.ownsRow w0.heap.size 33 2 (.slice (some ⟨gg, 0, none⟩) m cap) (outs ++ [x]).length (ents (outs ++ [x])) := by
    rw [List.length_append, ents_append]
    show w4.ownsRow _ _ 2 _ (outs.length + 1) (ents outs ++ [.string x.1, .int .i64 x.2])
    rw [hm]
    exact hown
  refine ⟨h.z, k5 _ _ _ h.n (by decide) (by decide), k5 _ _ _ h.y (by decide) (by decide), k5 _ _ _ h.b (by decide) (by decide), ⟨_, ?_, owns_keep hown2 fun b hb => ?_⟩, hb4.setCell h.z.2.2.1 _⟩
  · rw [setCell_eq_setRow _ _ _ _ _ _ _ hgo, setRow_heap _ _ _ _ _ _ hgo]
    rfl
  · exact Below.heap_setCell _ _ _ _ (fun e => own_ne hown hgo (by decide) (by rw [hb, e]))
theorem ListAt.drew {w0 w : World} {gn gy go gb n : Nat} {v : Value} {outs : List En} (h : ListAt w0 gn gy go gb n v outs w) : ListAt w0 gn gy go gb n v outs w.drew := ⟨h.z, h.n, h.y, h.b, h.o, h.hb.drew⟩

set_option maxRecDepth 100000 in
set_option maxHeartbeats 4000000 in
theorem list1_any (w0 : World) (gn gy go gb n : Nat) (v : Value) (D : List Int) (HV0 : BytesIn w0 v D) (hD0 : ByteL D) (hn : 16 * n = D.length) (hn32 : n ≤ 32) : ∀ (f at_ : Nat) (outs : List En) (w : World), n ≤ at_ + f → outs.length + (ino n at_).length ≤ 32 → at_ ≤ 1000 → ListAt w0 gn gy go gb n v outs w →
    Calls Tryd.prog 33 #[.int .i64 (at_ : Int), .pointer (some ⟨gn, 0, none⟩), .pointer (some ⟨gy, 0, none⟩), .pointer (some ⟨go, 0, none⟩), .pointer (some ⟨gb, 0, none⟩)] w (ListRes w0 gn gy go gb n v D outs at_) := by
  have HV := Lib.hid HV0
  have HD := Lib.hid hD0
  have HND := Lib.hid hn
  clear HV0 hD0 hn
  obtain ⟨i0, hi0, hz0, hz1, hz2⟩ := info_parts entInfo
  have HI := Lib.hid hi0
  have HZ0 := Lib.hid hz0
  have HZ1 := Lib.hid hz1
  have HZ2 := Lib.hid hz2
  clear hi0 hz0 hz1 hz2
  have base : ∀ (at_ : Nat) (outs : List En) (w : World), n ≤ at_ → ListAt w0 gn gy go gb n v outs w → Calls Tryd.prog 33 #[.int .i64 (at_ : Int), .pointer (some ⟨gn, 0, none⟩), .pointer (some ⟨gy, 0, none⟩), .pointer (some ⟨go, 0, none⟩), .pointer (some ⟨gb, 0, none⟩)] w (ListRes w0 gn gy go gb n v D outs at_) := by
    intro at_ outs w hat h
    have c1 : w.cell? ⟨gn, 0, none⟩ = some (.int .i64 (n : Int)) := cell_of_row _ _ _ _ _ _ h.n
    have hle : ¬ (at_ : Int) < (n : Int) := by omega
    have HE : Hid (ListRes w0 gn gy go gb n v D outs at_ (.returned (.tuple #[])) w) := by
      refine ⟨rfl, ?_⟩
      rw [ino_nil hat, List.map_nil, List.append_nil]
      exact h
    clear h
    go_enter Tryd.func33, Tryd.ntmps33
    go_wp2
    go_returns
    exact HE.out
  have HBASE := Lib.hid base
  clear base
  intro f
  induction f with
  | zero => exact fun at_ outs w h1 _ _ h3 => HBASE.out at_ outs w (by omega) h3
  | succ f ih =>
    intro at_ outs w h1 h2 h4 h3
    by_cases hat : n ≤ at_
    · exact HBASE.out at_ outs w hat h3
    have hlt : at_ < n := by omega
    have hino := ino_cons hlt
    obtain ⟨L, HL⟩ : ∃ L, Hid (ino n (2 * at_ + 1) = L) := ⟨_, rfl⟩
    obtain ⟨R, HR⟩ : ∃ R, Hid (ino n (2 * at_ + 2) = R) := ⟨_, rfl⟩
    rw [HL.out, HR.out] at hino
    obtain ⟨a1, Ha1⟩ : ∃ a, Hid (2 * at_ + 1 = a) := ⟨_, rfl⟩
    obtain ⟨a2, Ha2⟩ : ∃ a, Hid (2 * at_ + 2 = a) := ⟨_, rfl⟩
    rw [Ha1.out] at HL
    rw [Ha2.out] at HR
    have hlen : (ino n at_).length = L.length + (R.length + 1) := by rw [hino]; simp
    rw [hlen] at h2
    have HIN := Lib.hid hino
    have i1 := ih a1 outs w (by have := Ha1.out; omega) (by rw [HL.out]; omega) (by have := Ha1.out; omega) h3
    have I1 := Lib.hid i1
    have I2 : Hid (∀ (o2 : List En) (w : World), o2.length = outs.length + L.length + 1 → ListAt w0 gn gy go gb n v o2 w → Calls Tryd.prog 33 #[.int .i64 (a2 : Int), .pointer (some ⟨gn, 0, none⟩), .pointer (some ⟨gy, 0, none⟩), .pointer (some ⟨go, 0, none⟩), .pointer (some ⟨gb, 0, none⟩)] w (ListRes w0 gn gy go gb n v D o2 a2)) := fun o2 w ho hw => ih a2 o2 w (by have := Ha2.out; omega) (by rw [HR.out]; omega) (by have := Ha2.out; omega) hw
    have c1 : w.cell? ⟨gn, 0, none⟩ = some (.int .i64 (n : Int)) := cell_of_row _ _ _ _ _ _ h3.n
    have c2 : w.cell? ⟨gy, 0, none⟩ = some (.func (.func 33) #[] #[.pointer (some ⟨gn, 0, none⟩), .pointer (some ⟨gy, 0, none⟩), .pointer (some ⟨go, 0, none⟩), .pointer (some ⟨gb, 0, none⟩)]) := cell_of_row _ _ _ _ _ _ h3.y
    have w1 : IntKind.i64.wrap (2 * (at_ : Int)) = 2 * (at_ : Int) := IntWalk.i64_in _ (by omega)
    have w2 : IntKind.i64.wrap (2 * (at_ : Int) + 1) = (a1 : Int) := by rw [IntWalk.i64_in _ (by omega)]; have := Ha1.out; omega
    have w3 : IntKind.i64.wrap (2 * (at_ : Int) + 2) = (a2 : Int) := by rw [IntWalk.i64_in _ (by omega)]; have := Ha2.out; omega
    have hng : (at_ : Int) < (n : Int) := by omega
    clear ih i1 h1 h4 h3 hino hlen
    go_enter Tryd.func33, Tryd.ntmps33
    go_wp2_with fail
    refine I1.out.mono ?_
    rintro e wA ⟨rfl, hA⟩
    rw [HL.out] at hA
    obtain ⟨o1, Ho1⟩ : ∃ o, Hid (outs ++ L.map (rdE D) = o) := ⟨_, rfl⟩
    rw [Ho1.out] at hA
    have hl1 : o1.length = outs.length + L.length := by rw [← Ho1.out]; simp
    have HL1 := Lib.hid hl1
    obtain ⟨M1, HM1⟩ : ∃ m, Hid (o1.length = m) := ⟨_, rfl⟩
    have hM1 : M1 ≤ 31 := by have := HM1.out; omega
    clear hl1
    obtain ⟨ov, hgo, hov⟩ := hA.o
    have hovM := hov
    rw [HM1.out] at hovM
    have HOVM := Lib.hid hovM
    clear hovM
    obtain ⟨x1, Hx1⟩ : ∃ x, Hid ((rdE D at_).1 = x) := ⟨(rdE D at_).1, rfl⟩
    obtain ⟨x2, Hx2⟩ : ∃ x, Hid ((rdE D at_).2 = x) := ⟨(rdE D at_).2, rfl⟩
    have hrow := row_any v D wA.drew (HV.out.below hA.hb.drew) HD.out at_ (by have := HND.out; omega) (by have := HND.out; omega)
    rw [Hx1.out, Hx2.out] at hrow
    have HROW : Hid (Calls Tryd.prog 31 #[v, .int .i64 (at_ : Int)] wA.drew fun e w' => ∃ u, e = .returned u ∧ u = .agg #[.string x1, .int .i64 x2] ∧ Below wA.drew.heap.size wA.drew w') := hrow.mono fun e w' ⟨h1, h2⟩ => ⟨_, h1, rfl, h2⟩
    have k0 : wA.cell? ⟨go, 0, none⟩ = some ov := cell_of_row _ _ _ _ _ _ hgo
    have f0 : wA.frozen? ⟨go, 0, none⟩ = false := frozen_of_row _ _ _ _ _ hgo
    have kb : wA.cell? ⟨gb, 0, none⟩ = some v := cell_of_row _ _ _ _ _ _ hA.b
    have hgl : go < wA.heap.size := heap_lt hgo
    have hbl : gb < wA.heap.size := heap_lt hA.b
    have HA := Lib.hid hA
    have HGO := Lib.hid hgo
    have HOV := Lib.hid hov
    have hzA : w0.heap.size ≤ wA.heap.size := hA.hb.size
    have NE := Lib.hid (own_ne hov hgo (by decide))
    clear hA hgo hov hrow c1 c2
    go_wp2
    go_region_law (first
      | (refine step_callD ?_ 31 #[.tmp 15, .tmp 16] #[25, 3] ?_ (fun _ _ => by kernel_rfl) #[v, .int .i64 (at_ : Int)] ?_ _ HROW.out ?_; (rfl); (rfl); (kernel_rfl); rintro _ w2 ⟨rfl, hb2⟩; have k2 : w2.cell? ⟨go, 0, none⟩ = some ov := (hb2.cell (p := ⟨go, 0, none⟩) hgl).trans k0; have f2 : w2.frozen? ⟨go, 0, none⟩ = false := (hb2.frozen (p := ⟨go, 0, none⟩) hgl).trans f0; have b2 : w2.cell? ⟨gb, 0, none⟩ = some v := (hb2.cell (p := ⟨gb, 0, none⟩) hbl).trans kb; have kz : go < w2.heap.size := Nat.lt_of_lt_of_le hgl hb2.size; have kn : ¬ go = w2.heap.size := Nat.ne_of_lt kz; have HO2 : Hid (w2.ownsRow w0.heap.size 33 2 ov M1 (ents o1)) := owns_below (w := wA.drew) HOVM.out hb2; have hz2 : w0.heap.size ≤ w2.heap.size := Nat.le_trans hzA hb2.size; have HB2 := Lib.hid hb2; clear hb2)
      | (refine step_append_lies _ (by rfl) _ _ _ (by rfl) w0.heap.size 33 i0 _ 2 24 entsT HI.out HZ0.out HZ1.out HZ2.out rfl (by omega) ov M1 (ents o1) (by rfl) (HO2.out.alloc _)
          ⟨w2.heap.size, 0, none⟩ 1 1 [.string x1, .int .i64 x2] (by rfl) (by rfl) (World.news_of_block (cs := #[.string x1, .int .i64 x2]) (t := 33) (fr := (0, 0)) (heap_alloc_new w2 _)) (by simp [Value.oneCell'])
          (by omega) (by unfold maxLen; omega) (by omega) (by simp only [alloc_size]; omega) (w2.heap.size + 1) (by simp only [alloc_size]) ?_; intro gg cap4 w4 hown4 hgrow hat2 hlt4
         have k4 : w4.cell? ⟨go, 0, none⟩ = some ov := by rw [hgrow.cell_far _ (by simp only [alloc_size]; omega) (Ne.symm NE.out), World.cell?_alloc_lt _ _ _ kz]; exact k2
         have f4 : w4.frozen? ⟨go, 0, none⟩ = false := by rw [hgrow.frozen_far _ (by simp only [alloc_size]; omega) (Ne.symm NE.out), frozen_alloc_lt' _ _ _ kz]; exact f2
         have HO4 := Lib.hid hown4
         have HG4 := Lib.hid hgrow
         clear hown4 hgrow hat2))
    all_goals
      have hS := HA.out.drew.snoc (w := wA.drew) HGO.out HOV.out HB2.out (x1, x2) (by rw [HM1.out]) HO4.out HG4.out
      have hxr : (x1, x2) = rdE D at_ := by rw [← Hx1.out, ← Hx2.out]
      rw [hxr] at hS
      obtain ⟨w5, HW5⟩ : ∃ W, Hid (w4.setCell ⟨go, 0, none⟩ (.slice (some ⟨gg, 0, none⟩) (M1 + 1) cap4) = W) := ⟨_, rfl⟩
      rw [HW5.out] at hS ⊢
      have c5 : w5.cell? ⟨gy, 0, none⟩ = some (.func (.func 33) #[] #[.pointer (some ⟨gn, 0, none⟩), .pointer (some ⟨gy, 0, none⟩), .pointer (some ⟨go, 0, none⟩), .pointer (some ⟨gb, 0, none⟩)]) := cell_of_row _ _ _ _ _ _ hS.y
      have HCALL := Lib.hid (I2.out _ _ (by rw [List.length_append, HL1.out]; rfl) hS)
      clear hS k4 f4 HW5 HO4 HG4 hlt4 k2 f2 b2 kz kn HO2 hz2 HB2
      go_wp2_with fail
      refine HCALL.out.mono ?_
      rintro e w6 ⟨rfl, h6⟩
      have HRES : Hid (ListRes w0 gn gy go gb n v D outs at_ (.returned (.tuple #[])) w6) := by
        refine ⟨rfl, ?_⟩
        rw [HR.out, ← Ho1.out] at h6
        rw [HIN.out, List.map_append, List.map_cons]
        simpa using h6
      clear h6
      go_wp2
      go_returns
      exact HRES.out
end Go.Proofs.YtheiaebmemcbhaaDoor
