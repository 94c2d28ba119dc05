/- Put, Get, New of a cache; the cache as a list of (sector, bytes, dirty). -/
import Derived.Test.YthkcnihmfeilgaaBufUse2
namespace Go.Proofs.Ythkcnihmfeilgaa
open Go.RowKit

abbrev Ab := Nat × List Int × Bool
def ab (x : Sl) : Ab := (x.n, x.D, x.d)
def outA (M : List Ab) (m : Nat) : List Ab := M.eraseP fun x => x.1 == m
def roomA (slots : Nat) (M : List Ab) (st : Dk) : List Ab × Dk :=
  if M.length = slots then
    match M.getLast? with
    | some x => (M.dropLast, if x.2.2 then writeE st x.1 x.2.1 else st)
    | none => (M, st)
  else (M, st)
def useA (slots : Nat) (M : List Ab) (st : Dk) (s : Ab) : List Ab × Dk := (s :: (roomA slots (outA M s.1) st).1, (roomA slots (outA M s.1) st).2)
theorem outE_eq (E : List Sl) (m : Nat) : outE E m = E.eraseP fun x => x.n == m := by
  rw [List.eraseP_eq_eraseIdx]
  unfold outE idxO
  cases E.findIdx? fun x => x.n == m with
  | none => rfl
  | some i => simp [List.eraseIdx_eq_take_drop_succ]
theorem outE_ab (E : List Sl) (m : Nat) : (outE E m).map ab = outA (E.map ab) m := by
  rw [outE_eq]
  unfold outA
  rw [List.eraseP_map]
  rfl
theorem roomE_ab (slots : Nat) (E : List Sl) (st : Dk) : (roomE slots E st).1.map ab = (roomA slots (E.map ab) st).1 ∧ (roomE slots E st).2 = (roomA slots (E.map ab) st).2 := by
  unfold roomE roomA
  rw [List.length_map, List.getLast?_map]
  split
  · cases E.getLast? with
    | none => exact ⟨rfl, rfl⟩
    | some x => exact ⟨by simp, rfl⟩
  · exact ⟨rfl, rfl⟩
theorem useE_ab (slots : Nat) (E : List Sl) (st : Dk) (s : Sl) : (useE slots E st s).1.map ab = (useA slots (E.map ab) st (ab s)).1 ∧ (useE slots E st s).2 = (useA slots (E.map ab) st (ab s)).2 := by
  have h := roomE_ab slots (outE E s.n) st
  rw [outE_ab] at h
  unfold useE useA
  constructor
  · show ab s :: _ = _
    rw [h.1]; rfl
  · exact h.2

def CacheAt (w : World) (c d : Value) (slots : Nat) (M : List Ab) (st : Dk) (k : Nat) (A F : Nat → Prop) : Prop := ∃ E, E.map ab = M ∧ BufAt w c d slots E st k A F
def CacheDid (c d : Value) (slots : Nat) (M : List Ab) (st : Dk) (k : Nat) (A F : Nat → Prop) (w w' : World) : Prop := ∃ E, E.map ab = M ∧ BufDid c d slots E st k A F w w'

theorem use_at {w : World} {c d : Value} {slots : Nat} {E : List Sl} {st : Dk} {k : Nat} {A F : Nat → Prop} (h : BufAt w c d slots E st k A F) (s : Sl) (hs : s.n < k) (hdat : DatAt w A s.v s.D) (hW : st.W.length < 1000000) :
    Calls Try.prog 52 #[c, .agg #[.int .i64 (s.n : Int), s.v, .bool s.d]] w fun e w' => e = .returned (.tuple #[]) ∧ BufDid c d slots (useE slots E st s).1 (useE slots E st s).2 k A F w w' := by
  obtain ⟨gc, lv, rfl, h1, h2, h3⟩ := h
  exact use_raw h1 h2 h3 s.n s.v s.D s.d hs hdat hW
theorem BufAt.more {w : World} {c d : Value} {slots : Nat} {E : List Sl} {st : Dk} {k : Nat} {A F : Nat → Prop} (h : BufAt w c d slots E st k A F) (g : Nat) (hg : g < w.heap.size) (hF : ¬ F g) : BufAt w c d slots E st k (fun i => A i ∨ i = g) F := by
  obtain ⟨gc, lv, hc, h1, h2, h3⟩ := h
  refine ⟨gc, lv, hc, h1.more (fun i hi => Or.inl hi) ?_, h2, ?_⟩
  · rintro i (hi | rfl)
    · exact h1.fin i hi
    · exact hg
  · rintro i (hi | rfl)
    · exact h3 i hi
    · exact hF
theorem BufAt.head {w : World} {c d : Value} {slots : Nat} {E : List Sl} {st : Dk} {k : Nat} {A F : Nat → Prop} (h : BufAt w c d slots E st k A F) : ∀ x ∈ E, DatAt w A x.v x.D ∧ x.n < k := by
  obtain ⟨gc, lv, hc, h1, h2, h3⟩ := h
  exact fun x hx => ⟨h1.dat x hx, h1.ns x hx⟩

set_option maxRecDepth 100000 in
set_option maxHeartbeats 2000000 in
theorem put_any {w : World} {c d : Value} {slots : Nat} {M : List Ab} {st : Dk} {k : Nat} {A F : Nat → Prop} (h : CacheAt w c d slots M st k A F) (n : Nat) (hn : n < k) (v : Value) (D : List Int) (hv : BytesAt w v D) (hD : D.length = 64) (hW : st.W.length < 1000000) :
    Calls Try.prog 47 #[c, .int .i64 (n : Int), v] w fun e w' => e = .returned (.int .i64 0) ∧ CacheDid c d slots (useA slots M st (n, D, true)).1 (useA slots M st (n, D, true)).2 k A F w w' := by
  obtain ⟨E, rfl, h⟩ := h
  obtain ⟨p, cp, hu⟩ : ∃ p cp, v = .slice p 64 cp := by
    obtain ⟨_, ⟨h0, _⟩ | ⟨g, o, cap, rfl, _⟩⟩ := hv
    · omega
    · exact ⟨_, cap, by rw [hD]⟩
  subst hu
  have H := Lib.hid h
  obtain ⟨gc, lv, rfl, h1, h2, h3⟩ := h
  have HSZ : Hid (Calls Try.prog 63 #[d] w fun e w' => e = .returned (.int .i64 (k : Int)) ∧ w = w') := size_at h2
  have c0 := h1.c0
  have HC := Lib.hid (clone64 _ D w hv hD)
  have HFIN := Lib.hid H.out.fin
  have hn1 : ¬ (k : Int) ≤ (n : Int) := by omega
  have HD := Lib.hid hD
  clear h1 h2 h3 hv hD
  go_enter Try.func47, Try.ntmps47
  go_wp2_with fail
  refine HSZ.out.mono ?_
  rintro e w' ⟨rfl, rfl⟩
  go_wp2_with fail
  refine HC.out.mono ?_
  rintro e w1 ⟨v', rfl, g, cap, cur, rfl, hg, hh, ht, hb⟩
  have HG : Hid (BufAt w1 (.pointer (some ⟨gc, 0, none⟩)) d slots E st k (fun i => A i ∨ i = g) F) := (H.out.below hb).more g (heap_lt hh) (fun hf => by have := HFIN.out.2 g hf; omega)
  have HDT : Hid (DatAt w1 (fun i => A i ∨ i = g) (.slice (some ⟨g, 0, none⟩) 64 cap) D) := ⟨g, cap, cur, rfl, HD.out, Or.inr rfl, hh, ht⟩
  have HB := Lib.hid hb
  clear hh ht hb c0
  go_wp2_with fail
  refine (use_at HG.out ⟨n, .slice (some ⟨g, 0, none⟩) 64 cap, D, true⟩ hn HDT.out hW).mono ?_
  rintro e w2 ⟨rfl, hd2⟩
  have hfin : CacheDid (.pointer (some ⟨gc, 0, none⟩)) d slots (useA slots (E.map ab) st (n, D, true)).1 (useA slots (E.map ab) st (n, D, true)).2 k A F w w2 := by
    obtain ⟨e1, e2⟩ := useE_ab slots E st ⟨n, .slice (some ⟨g, 0, none⟩) 64 cap, D, true⟩
    refine ⟨_, e1, ?_⟩
    have e2' : (useA slots (E.map ab) st (n, D, true)).2 = (useE slots E st ⟨n, .slice (some ⟨g, 0, none⟩) 64 cap, D, true⟩).2 := e2.symm
    rw [e2']
    exact BufDid.trans (Keeps.of_below HB.out) (fun i hi => hi.imp id fun e => by rw [e]; exact hg) (fun i hi => Or.inl hi) hd2
  have HFIN2 := Lib.hid hfin
  clear hfin hd2
  go_wp2
  go_ret
  exact ⟨rfl, HFIN2.out⟩

end Go.Proofs.Ythkcnihmfeilgaa
