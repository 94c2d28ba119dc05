/- A sector is written. -/
import Derived.Test.YtdcplaonafmbjaaDkOps3
namespace Go.Proofs.Ytdcplaonafmbjaa
open Go.RowKit

theorem writeInfo : (Try.prog.info? 90).map (fun i => (i.zero, i.size, i.bytes)) = some (some (.agg #[.int .i64 0, .slice none 0 0]), 2, 32) := by kernel_rfl
theorem writesT : Try.prog.underlying 69 = some (.slice 90) := by kernel_rfl

/-- A sector is written. -/
def writeE (st : Dk) (n : Nat) (D : List Int) : Dk := if st.fu = 0 then st else { S := st.S, N := putS st.N n D, W := st.W ++ [(n, D)], fu := decF st.fu }

def New64 (D : List Int) (w : World) (v : Value) (w' : World) : Prop :=
  ∃ g cap cur, v = .slice (some ⟨g, 0, none⟩) 64 cap ∧ w.heap.size ≤ g ∧ w'.heap[g]? = some (.cells cur 5 (0, 0)) ∧ cur.toList.take 64 = u8s D ∧ Below w.heap.size w w'
theorem clone64 (v : Value) (D : List Int) (w : World) (h : BytesAt w v D) (hD : D.length = 64) : Calls Try.prog 45 #[v] w fun e w' => ∃ v', e = .returned v' ∧ New64 D w v' w' :=
  (clone_any v D w h (by omega) (by omega)).mono fun e w' ⟨v', he, g, cap, cur, hv, h1, h2, h3, h4⟩ => ⟨v', he, g, cap, cur, by rw [hv, hD], h1.1, h2, by rw [← hD]; exact h3, h4⟩
theorem frozen_alloc_lt (w : World) (o : Obj) (p : Addr) (h : p.block < w.heap.size) : (w.alloc o).frozen? p = w.frozen? p := World.frozen?_of_block (Below.heap_alloc w o p.block h)

section
variable {w w' : World} {gd gs gn : Nat} {wt : Value} {E : List (Nat × Value)} {st : Dk} {L k : Nat} {F : Nat → Prop}

/-- What lies there behind a write. -/
theorem Lies.wrote (h : Lies w gd gs gn wt E st L k F) (n : Nat) (hn : n < k) (D : List Int) (hD : D.length = 64) (hs : E.length < 1000000) (wt' : Value) (g' cap : Nat) (cur : Array Value) (hz : w.heap.size ≤ w'.heap.size)
    (hk : ∀ i, i < w.heap.size → i ≠ gd → i ≠ gn → wt.ownBlock ≠ some i → w'.heap[i]? = w.heap[i]?)
    (hd' : w'.heap[gd]? = some (.cells #[.slice (some ⟨gs, 0, none⟩) L L, .slice (some ⟨gn, 0, none⟩) L L, wt', .int .i64 st.fu] 71 (0, 0)))
    (hn' : w'.heap[gn]? = some (.cells (u8s (putS st.N n D)).toArray 5 (0, 0)))
    (own' : w'.ownsRow 0 90 2 wt' (E.length + 1) (ecells E ++ [.int .i64 (n : Int), .slice (some ⟨g', 0, none⟩) 64 cap]))
    (hb : wt'.ownBlock = wt.ownBlock ∨ ∀ g, wt'.ownBlock = some g → w.heap.size ≤ g)
    (hg' : w.heap.size ≤ g') (hcur : w'.heap[g']? = some (.cells cur 5 (0, 0))) (hc : cur.toList.take 64 = u8s D) :
    Lies w' gd gs gn wt' (E ++ [(n, .slice (some ⟨g', 0, none⟩) 64 cap)]) { st with N := putS st.N n D, W := st.W ++ [(n, D)] } L k (fun i => F i ∨ (w.heap.size ≤ i ∧ i < w'.heap.size)) := by
  obtain ⟨n1, n2, n3, n4, n5⟩ := h.ne_d
  have ls := h.fin _ h.fs
  have ln := h.fin _ h.fn
  have hg2 : g' < w'.heap.size := heap_lt hcur
  have hlN : st.N.length = 64 * k := by rw [h.ln, h.hL]
  exact { h with
    fd := Or.inl h.fd
    fs := Or.inl h.fs
    fn := Or.inl h.fn
    hd := hd'
    hs := (hk _ ls (Ne.symm n1) h.ne n4).trans h.hs
    hn := hn'
    ln := by rw [putS_len hlN hn hD, h.hL]
    own := by
      rw [ecells_append, List.length_append]
      exact own'
    fw := fun b hb' => by
      rcases hb with e | e
      · exact Or.inl (h.fw b (by rw [← e]; exact hb'))
      · have := (own'.lt b hb').2
        exact Or.inr ⟨e b hb', this⟩
    len := by rw [List.length_append, List.length_append, h.len]; rfl
    small := by rw [List.length_append]; simp only [List.length_cons, List.length_nil]; omega
    ent := fun i m v hi => by
      by_cases hlt : i < E.length
      · rw [List.getElem?_append_left hlt] at hi
        obtain ⟨h1, D1, h2, h3⟩ := h.ent i m v hi
        refine ⟨h1, D1, ?_, h3.keep (fun i c hi hs hn hc => hk i (h.fin i hi) (ne_of_type hc h.hd (by decide)) hn ?_) fun i hi => Or.inl hi⟩
        · rw [List.getElem?_append_left (by rw [← h.len]; exact hlt)]; exact h2
        · exact own_ne h.own hc (by decide)
      · have hi' := (List.getElem?_eq_some_iff.1 hi).1
        rw [List.length_append] at hi'
        simp only [List.length_cons, List.length_nil] at hi'
        have e : i = E.length := by omega
        subst e
        rw [List.getElem?_append_right (Nat.le_refl _), Nat.sub_self] at hi
        simp only [List.getElem?_cons_zero, Option.some.injEq, Prod.mk.injEq] at hi
        obtain ⟨rfl, rfl⟩ := hi
        refine ⟨hn, D, ?_, g', cap, cur, rfl, hD, Or.inr ⟨hg', hg2⟩, by omega, by omega, hcur, hc⟩
        rw [h.len, List.getElem?_append_right (Nat.le_refl _), Nat.sub_self]; rfl
    fin := fun i hi => by
      rcases hi with hi | hi
      · exact Nat.lt_of_lt_of_le (h.fin i hi) hz
      · exact hi.2 }

theorem Lies.mid {w2 w4 : World} (h : Lies w gd gs gn wt E st L k F) (hb2 : Below w.heap.size w w2) {o : Obj} (hg : (w2.alloc o).grownBy w4 wt.ownBlock) (u : Value) :
    (∀ i, i < w.heap.size → i ≠ gd → wt.ownBlock ≠ some i → (w4.setCell ⟨gd, 2, none⟩ u).heap[i]? = w.heap[i]?) ∧
    (w4.setCell ⟨gd, 2, none⟩ u).heap[gd]? = some (.cells #[.slice (some ⟨gs, 0, none⟩) L L, .slice (some ⟨gn, 0, none⟩) L L, u, .int .i64 st.fu] 71 (0, 0)) ∧
    w.heap.size ≤ (w4.setCell ⟨gd, 2, none⟩ u).heap.size ∧ Keeps F w (w4.setCell ⟨gd, 2, none⟩ u) := by
  obtain ⟨n1, n2, n3, n4, n5⟩ := h.ne_d
  have s1 : (w2.alloc o).heap.size = w2.heap.size + 1 := by simp
  have s2 := hb2.size
  have s4 := hg.size
  have a : ∀ i, i < w.heap.size → wt.ownBlock ≠ some i → w4.heap[i]? = w.heap[i]? := fun i hi hne =>
    (hg.block i (by omega) (Ne.symm hne)).trans ((Below.heap_alloc w2 o i (by omega)).trans (hb2.block i hi))
  have ld := h.fin _ h.fd
  refine ⟨fun i hi hd hne => (Below.heap_setCell w4 _ _ i hd).trans (a i hi hne), ?_, by simp [World.setCell]; omega, ?_⟩
  · have := heap_setCell_at (i := 2) ((a gd ld n3).trans h.hd) u
    simpa using this
  · refine ((Keeps.of_below hb2).step ((Keeps.alloc o).step (Keeps.grown hg fun r hr => h.fw r hr))).step (Keeps.setCell h.fd _)

set_option maxRecDepth 100000 in
set_option maxHeartbeats 4000000 in
theorem write_lies (h : Lies w gd gs gn wt E st L k F) (n : Nat) (hn : n < k) (v : Value) (D : List Int) (hD : D.length = 64) (hb : ∀ w', Keeps F w w' → BytesAt w' v D) (hs : E.length < 1000000) :
    Calls Try.prog 39 #[.pointer (some ⟨gd, 0, none⟩), .int .i64 (n : Int), v] w fun e w' => e = .returned (.int .i64 0) ∧ Did (.pointer (some ⟨gd, 0, none⟩)) (writeE st n D) k F w w' := by
  have H := Lib.hid h
  have HB := Lib.hid hb
  obtain ⟨p, cp, hu⟩ : ∃ p cp, v = .slice p 64 cp := by
    have := hb w (Keeps.refl _ _)
    obtain ⟨_, ⟨h0, _⟩ | ⟨g, o, cap, rfl, _⟩⟩ := this
    · omega
    · exact ⟨_, cap, by rw [hD]⟩
  subst hu
  have HD := Lib.hid hD
  have h4 := h.k1
  have hL : 64 * k ≤ L := by have := h.hL; omega
  have hL1 : L ≤ 64 * k := by have := h.hL; omega
  have hn1 : ¬ (k : Int) ≤ (n : Int) := by omega
  have hn2 : (0 : Int) ≤ (n : Int) := by omega
  have hn3 : (n : Int) * 64 ≤ (L : Int) := by omega
  have hcap : ¬ L = n * 64 := by omega
  clear hb hD
  by_cases hf : st.fu = 0
  · clear h
    have HF := Lib.hid hf
    clear hf
    go_enter Try.func39, Try.ntmps39
    go_wp2_with fail
    refine (size_lies H.out).mono ?_
    rintro e w' ⟨rfl, rfl⟩
    go_wp2_with fail
    refine (goes_dead H.out HF.out).mono ?_
    rintro e w' ⟨rfl, rfl⟩
    go_wp2
    go_ret
    refine ⟨rfl, F, ⟨gd, gs, gn, wt, E, L, rfl, ?_⟩, fun _ hi => Or.inl hi, Keeps.refl _ _⟩
    unfold writeE
    rw [if_pos HF.out]
    exact H.out
  · clear h
    have HF := Lib.hid hf
    clear hf
    obtain ⟨i0, hi0, hz0, hz1, hz2⟩ := info_parts writeInfo
    have HI := Lib.hid hi0
    have HZ0 := Lib.hid hz0
    have HZ1 := Lib.hid hz1
    have HZ2 := Lib.hid hz2
    clear hi0 hz0 hz1 hz2
    go_enter Try.func39, Try.ntmps39
    go_wp2_with fail
    refine (size_lies H.out).mono ?_
    rintro e w' ⟨rfl, rfl⟩
    go_wp2_with fail
    refine (goes_lies H.out HF.out).mono ?_
    rintro e w1 ⟨rfl, h1, hk1⟩
    have H1 := Lib.hid h1
    have c2 := h1.c2
    have z2 := h1.z 2
    have hgl : gd < w1.heap.size := h1.fin _ h1.fd
    have NE := Lib.hid h1.ne_d
    clear h1
    go_wp2
    go_region_law (first
        | (refine step_call ?_ 45 #[.tmp 28] #[42] ?_ (fun _ _ => by kernel_rfl) #[.slice p 64 cp] ?_ (New64 D w1.drew) (clone64 _ D w1.drew (HB.out w1.drew hk1.drew) HD.out) ?_; (rfl); (rfl); (kernel_rfl); rintro v2 w2 ⟨g2, cap2, cur2, rfl, hg2, hh2, ht2, hb2⟩; have k2 : w2.cell? ⟨gd, 2, none⟩ = some wt := (hb2.cell (p := ⟨gd, 2, none⟩) hgl).trans c2; have f2 : w2.frozen? ⟨gd, 2, none⟩ = false := (hb2.frozen (p := ⟨gd, 2, none⟩) hgl).trans z2; have kz : gd < w2.heap.size := Nat.lt_of_lt_of_le hgl hb2.size; have kn : ¬ gd = w2.heap.size := Nat.ne_of_lt kz; have HO2 : Hid (w2.ownsRow 0 90 2 wt E.length (ecells E)) := owns_below H1.out.drew.own hb2; have HH2 := Lib.hid hh2; have HT2 := Lib.hid ht2; have HB2 := Lib.hid hb2; clear hh2 ht2 hb2)
        | (refine step_append_lies _ (by rfl) _ _ _ (by rfl) 0 90 i0 _ 2 32 writesT HI.out HZ0.out HZ1.out HZ2.out rfl (by omega) wt E.length (ecells E) (by rfl) (HO2.out.alloc _)
            ⟨w2.heap.size, 0, none⟩ 1 1 [.int .i64 (n : Int), .slice (some ⟨g2, 0, none⟩) 64 cap2] (by rfl) (by rfl) (World.news_of_block (cs := #[.int .i64 (n : Int), .slice (some ⟨g2, 0, none⟩) 64 cap2]) (t := 90) (fr := (0, 0)) (heap_alloc_new w2 _)) (by simp [Value.oneCell'])
            (by omega) (by unfold maxLen; omega) (by omega) (by simp) (w2.heap.size + 1) (by simp) ?_; intro gg cap4 w4 hown4 hgrow hat hlt
           have k4 : w4.cell? ⟨gd, 2, none⟩ = some wt := by rw [hgrow.cell_far _ (by simp; omega) (Ne.symm NE.out.2.2.1), World.cell?_alloc_lt _ _ _ kz]; exact k2
           have f4 : w4.frozen? ⟨gd, 2, none⟩ = false := by rw [hgrow.frozen_far _ (by simp; omega) (Ne.symm NE.out.2.2.1), frozen_alloc_lt _ _ _ kz]; exact f2
           have HO4 := Lib.hid hown4
           have HG4 := Lib.hid hgrow
           have HA4 := Lib.hid hat
           clear hown4 hgrow hat))
    all_goals
      obtain ⟨m1, m2, m3, m4⟩ := H1.out.drew.mid HB2.out HG4.out (.slice (some ⟨gg, 0, none⟩) (E.length + 1) cap4)
      have M1 := Lib.hid m1
      have M2 := Lib.hid m2
      have M4 := Lib.hid m4
      have ha4 := HA4.out
      have hkk : Keeps F w (w4.setCell ⟨gd, 2, none⟩ (.slice (some ⟨gg, 0, none⟩) (E.length + 1) cap4)) := hk1.drew.step m4
      have ne2 : wt.ownBlock ≠ some g2 := own_ne HO2.out HH2.out (by decide)
      have hgd2 : g2 ≠ gd := by have : w1.heap.size ≤ g2 := hg2; omega
      have hfin2 : (w4.setCell ⟨gd, 2, none⟩ (.slice (some ⟨gg, 0, none⟩) (E.length + 1) cap4)).heap[g2]? = some (.cells cur2 5 (0, 0)) :=
        (Below.heap_setCell w4 _ _ g2 hgd2).trans ((HG4.out.block g2 (by have := heap_lt HH2.out; simp; omega) (Ne.symm ne2)).trans (heap_alloc_keep HH2.out _))
      have hgw : (Value.slice (some ⟨gg, 0, none⟩) (E.length + 1) cap4).ownBlock ≠ some gd := by
        rcases ha4 with e | e
        · intro e2
          have e3 : gg = gd := by simpa [Value.ownBlock] using e2
          exact NE.out.2.2.1 (by rw [e, e3])
        · intro e2
          have e3 : gg = gd := by simpa [Value.ownBlock] using e2
          omega
      have own5 : (w4.setCell ⟨gd, 2, none⟩ (.slice (some ⟨gg, 0, none⟩) (E.length + 1) cap4)).ownsRow 0 90 2 (.slice (some ⟨gg, 0, none⟩) (E.length + 1) cap4) (E.length + 1) (ecells E ++ [.int .i64 (n : Int), .slice (some ⟨g2, 0, none⟩) 64 cap2]) :=
        owns_keep HO4.out fun b hb => Below.heap_setCell w4 _ _ b (fun e => hgw (by rw [hb, e]))
      have hbk : (Value.slice (some ⟨gg, 0, none⟩) (E.length + 1) cap4).ownBlock = wt.ownBlock ∨ ∀ g, (Value.slice (some ⟨gg, 0, none⟩) (E.length + 1) cap4).ownBlock = some g → w1.drew.heap.size ≤ g := by
        rcases ha4 with e | e
        · exact Or.inl e.symm
        · refine Or.inr fun g hg => ?_
          have e3 : gg = g := by simpa [Value.ownBlock] using hg
          have := HB2.out.size
          omega
      have ln1 : gn < w1.drew.heap.size := H1.out.drew.fin _ H1.out.fn
      have hn5 := (m1 gn ln1 (Ne.symm NE.out.2.1) NE.out.2.2.2.2).trans H1.out.drew.hn
      generalize hw5 : w4.setCell ⟨gd, 2, none⟩ (.slice (some ⟨gg, 0, none⟩) (E.length + 1) cap4) = w5 at *
      have HKK := Lib.hid hkk
      have HFIN := Lib.hid hfin2
      have HOWN := Lib.hid own5
      have HBK := Lib.hid hbk
      have HN5 := Lib.hid hn5
      have c1 : w5.cell? ⟨gd, 1, none⟩ = some (.slice (some ⟨gn, 0, none⟩) L L) := cell_of_row _ _ _ _ _ _ m2
      clear m1 m2 m4 hkk hfin2 own5 hbk hn5 hw5 ha4 k4 f4 HO4 HG4 HA4 hlt ne2 hgw
      go_wp2_with fail
      rw [run_copy_bytes w5 42 42 _ 5 u8sT u8Size gn (n * 64) (L - n * 64) (L - n * 64) _ st.N D 5 HN5.out (HB.out w5 HKK.out) (by rw [HD.out]; omega) (by rw [HD.out]; omega) (by rw [HD.out, H1.out.ln]; omega)]
      go_wp2
      go_ret
      have e : over st.N (n * 64) D = putS st.N n D := by unfold over putS; rw [HD.out, Nat.mul_comm n 64]
      rw [e]
      have hL5 := H1.out.drew.wrote (w' := w5.setRow gn (u8s (putS st.N n D)).toArray) n hn D HD.out hs _ g2 cap2 cur2 (by rw [setRow_size]; exact m3)
        (fun i hi hd hn hne => (setRow_other w5 gn i _ hn).trans (M1.out i hi hd hne)) ((setRow_other w5 gn gd _ NE.out.2.1).trans M2.out) (setRow_heap w5 gn _ _ _ _ HN5.out)
        (owns_keep HOWN.out fun b hb => setRow_other w5 gn b _ (fun e => own_ne HOWN.out HN5.out (by decide) (by rw [hb, e]))) HBK.out hg2 ((setRow_other w5 gn g2 _ (by omega)).trans HFIN.out) HT2.out
      have hW : writeE st n D = { S := st.S, N := putS st.N n D, W := st.W ++ [(n, D)], fu := decF st.fu } := by unfold writeE; rw [if_neg HF.out]
      rw [hW]
      refine ⟨rfl, fun i => F i ∨ (w1.drew.heap.size ≤ i ∧ i < (w5.setRow gn (u8s (putS st.N n D)).toArray).heap.size), ⟨gd, gs, gn, _, _, L, rfl, hL5⟩, ?_, HKK.out.step (Keeps.setRow H1.out.fn _)⟩
      rintro i (hi | hi)
      · exact Or.inl hi
      · exact Or.inr (Nat.le_trans hk1.size hi.1)
end

end Go.Proofs.Ytdcplaonafmbjaa
