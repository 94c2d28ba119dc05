/- A disk is made; flushed. -/
import Derived.Test.YtdcplaonafmbjaaDkOps2
import Derived.StillTailTactics
namespace Go.Proofs.Ytdcplaonafmbjaa
open Go.RowKit

section
variable {w : World} {gd gs gn : Nat} {wt : Value} {E : List (Nat × Value)} {st : Dk} {L k : Nat} {F : Nat → Prop}

theorem Lies.setS (h : Lies w gd gs gn wt E st L k F) (S' : List Int) (hl : S'.length = L) : Lies (w.setRow gs (u8s S').toArray) gd gs gn wt E { st with S := S' } L k F := by
  obtain ⟨n1, n2, n3, n4, n5⟩ := h.ne_d
  have other : ∀ i, i ≠ gs → (w.setRow gs (u8s S').toArray).heap[i]? = w.heap[i]? := fun i hi => setRow_other w gs i _ hi
  exact { h with
    hd := (other _ n1).trans h.hd
    hs := setRow_heap w gs _ _ _ _ h.hs
    hn := (other _ (Ne.symm h.ne)).trans h.hn
    ls := hl
    own := owns_keep h.own fun b hb => other b (fun e => n4 (by rw [hb, e]))
    ent := fun i n v hi => by
      obtain ⟨h1, D, h2, h3⟩ := h.ent i n v hi
      exact ⟨h1, D, h2, h3.keep (fun i c _ hs _ _ => other i hs) fun _ hi => hi⟩
    fin := fun i hi => by simpa using h.fin i hi }
theorem Lies.setN (h : Lies w gd gs gn wt E st L k F) (N' : List Int) (hl : N'.length = L) : Lies (w.setRow gn (u8s N').toArray) gd gs gn wt E { st with N := N' } L k F := by
  obtain ⟨n1, n2, n3, n4, n5⟩ := h.ne_d
  have other : ∀ i, i ≠ gn → (w.setRow gn (u8s N').toArray).heap[i]? = w.heap[i]? := fun i hi => setRow_other w gn i _ hi
  exact { h with
    hd := (other _ n2).trans h.hd
    hn := setRow_heap w gn _ _ _ _ h.hn
    hs := (other _ h.ne).trans h.hs
    ln := hl
    own := owns_keep h.own fun b hb => other b (fun e => n5 (by rw [hb, e]))
    ent := fun i n v hi => by
      obtain ⟨h1, D, h2, h3⟩ := h.ent i n v hi
      exact ⟨h1, D, h2, h3.keep (fun i c _ _ hn _ => other i hn) fun _ hi => hi⟩
    fin := fun i hi => by simpa using h.fin i hi }
theorem Lies.clearW (h : Lies w gd gs gn wt E st L k F) : Lies (w.setCell ⟨gd, 2, none⟩ (.slice none 0 0)) gd gs gn (.slice none 0 0) [] { st with W := [] } L k F := by
  obtain ⟨n1, n2, n3, n4, n5⟩ := h.ne_d
  have other : ∀ i, i ≠ gd → (w.setCell ⟨gd, 2, none⟩ (.slice none 0 0)).heap[i]? = w.heap[i]? := fun i hi => Below.heap_setCell w _ _ i hi
  exact { h with
    hd := by have := heap_setCell_at (i := 2) h.hd (.slice none 0 0); simpa using this
    hs := (other _ (Ne.symm n1)).trans h.hs
    hn := (other _ (Ne.symm n2)).trans h.hn
    own := World.ownsRow_nil _ _ _ _
    fw := fun b hb => by simp [Value.ownBlock] at hb
    len := rfl
    small := by simp
    ent := fun i n v hi => by simp at hi
    fin := fun i hi => by simpa [World.setCell] using h.fin i hi }
theorem over_all {a b : List Int} (h : a.length = b.length) : over a 0 b = b := by
  unfold over
  rw [List.take_zero, List.nil_append, Nat.zero_add, List.drop_of_length_le (by omega), List.append_nil]
theorem Lies.bytesS (h : Lies w gd gs gn wt E st L k F) : BytesAt w (.slice (some ⟨gs, 0, none⟩) L L) st.S := bytes_of_row h.ls h.hs (by rw [List.take_of_length_le (by have := h.ls; simp [u8s_len]; omega)])
theorem Lies.bytesN (h : Lies w gd gs gn wt E st L k F) : BytesAt w (.slice (some ⟨gn, 0, none⟩) L L) st.N := bytes_of_row h.ln h.hn (by rw [List.take_of_length_le (by have := h.ln; simp [u8s_len]; omega)])
theorem Lies.drew (h : Lies w gd gs gn wt E st L k F) : Lies w.drew gd gs gn wt E st L k F := h.keep (fun _ _ => rfl) (Nat.le_refl _)

/-- All lasts. -/
def flushE (st : Dk) : Dk := if st.fu = 0 then st else { S := st.N, N := st.N, W := [], fu := decF st.fu }

set_option maxRecDepth 100000 in
set_option maxHeartbeats 1000000 in
theorem flush_lies (h : Lies w gd gs gn wt E st L k F) : Calls Try.prog 43 #[.pointer (some ⟨gd, 0, none⟩)] w fun e w' => e = .returned (.tuple #[]) ∧ Did (.pointer (some ⟨gd, 0, none⟩)) (flushE st) k F w w' := by
  have H := Lib.hid h
  by_cases hf : st.fu = 0
  · clear h
    have HF := Lib.hid hf
    clear hf
    go_enter Try.func43, Try.ntmps43
    go_wp2_with fail
    refine (goes_dead H.out HF.out).mono ?_
    rintro e w' ⟨rfl, rfl⟩
    go_wp2
    go_end0
    refine ⟨rfl, F, ⟨gd, gs, gn, wt, E, L, rfl, ?_⟩, fun _ hi => Or.inl hi, Keeps.refl _ _⟩
    unfold flushE
    rw [if_pos HF.out]
    exact H.out
  · clear h
    have HF := Lib.hid hf
    clear hf
    go_enter Try.func43, Try.ntmps43
    go_wp2_with fail
    refine (goes_lies H.out HF.out).mono ?_
    rintro e w1 ⟨rfl, h1, hk1⟩
    have H1 := Lib.hid h1
    have c0 := h1.c0
    have c1 := h1.c1
    have HL : Hid (st.S.length = L ∧ st.N.length = L ∧ L = 64 * k ∧ 16 ≤ k) := ⟨h1.ls, h1.ln, h1.hL, h1.k0⟩
    clear h1
    go_wp2
    go_still_tail 8, (by kernel_rfl)
    go_wp2_with fail
    rw [run_copy_bytes _ 42 42 _ 5 u8sT u8Size gs 0 L L _ st.S st.N 5 H1.out.drew.hs H1.out.drew.bytesN (by have := HL.out; omega) (by have := HL.out; omega) (by have := HL.out; omega)]
    have e : over st.S 0 st.N = st.N := over_all (by have := HL.out; omega)
    rw [e]
    have h2 := H1.out.drew.setS st.N HL.out.2.1
    have H2 := Lib.hid h2
    have z2 := h2.z 2
    have c2 := h2.c2
    clear h2 e
    go_wp2
    go_end0
    have h3 := H2.out.clearW
    refine ⟨rfl, F, ⟨gd, gs, gn, .slice none 0 0, [], L, rfl, ?_⟩, fun _ hi => Or.inl hi, ?_⟩
    · unfold flushE
      rw [if_neg HF.out]
      exact h3
    · exact (hk1.drew.step (Keeps.setRow H1.out.fs _)).step (Keeps.setCell H1.out.fd _)

/-- A disk of zeros. -/
def freshE (k : Nat) : Dk := { S := List.replicate (64 * k) 0, N := List.replicate (64 * k) 0, W := [], fu := -1 }
def NewRes (k : Nat) (w : World) (e : Ending) (w' : World) : Prop :=
  ∃ d F, e = .returned (.tuple #[d, .int .i64 0]) ∧ DiskAt w' d (freshE k) k F ∧ (∀ i, F i → w.heap.size ≤ i) ∧ Below w.heap.size w w' ∧ d ≠ .pointer none

theorem alloc_size (w : World) (o : Obj) : (w.alloc o).heap.size = w.heap.size + 1 := by simp
theorem fresh_at (w : World) (gs gn : Nat) (hc : gs = w.heap.size ∧ gn = w.heap.size + 1 ∨ gs = w.heap.size + 1 ∧ gn = w.heap.size) (L k : Nat) (Z : List Int) (hL : L = 64 * k) (hZ : Z = List.replicate L 0) (h0 : 16 ≤ k) (h1 : k ≤ 256) :
    DiskAt (((w.alloc (.cells (u8s Z).toArray 5)).alloc (.cells (u8s Z).toArray 5)).alloc (.cells #[.slice (some ⟨gs, 0, none⟩) L L, .slice (some ⟨gn, 0, none⟩) L L, .slice none 0 0, .int .i64 (-1)] 71)).drew
      (.pointer (some ⟨w.heap.size + 1 + 1, 0, none⟩)) (freshE k) k (fun i => w.heap.size ≤ i ∧ i < w.heap.size + 3) := by
  have b0 : (((w.alloc (.cells (u8s Z).toArray 5)).alloc (.cells (u8s Z).toArray 5)).alloc (.cells #[.slice (some ⟨gs, 0, none⟩) L L, .slice (some ⟨gn, 0, none⟩) L L, .slice none 0 0, .int .i64 (-1)] 71)).drew.heap[w.heap.size]? = some (.cells (u8s Z).toArray 5 (0, 0)) :=
    heap_alloc_keep (heap_alloc_keep (heap_alloc_new w _) _) _
  have b1 : (((w.alloc (.cells (u8s Z).toArray 5)).alloc (.cells (u8s Z).toArray 5)).alloc (.cells #[.slice (some ⟨gs, 0, none⟩) L L, .slice (some ⟨gn, 0, none⟩) L L, .slice none 0 0, .int .i64 (-1)] 71)).drew.heap[w.heap.size + 1]? = some (.cells (u8s Z).toArray 5 (0, 0)) := by
    have := heap_alloc_new (w.alloc (.cells (u8s Z).toArray 5)) (.cells (u8s Z).toArray 5)
    simp only [alloc_size] at this
    exact heap_alloc_keep this _
  have b2 : (((w.alloc (.cells (u8s Z).toArray 5)).alloc (.cells (u8s Z).toArray 5)).alloc (.cells #[.slice (some ⟨gs, 0, none⟩) L L, .slice (some ⟨gn, 0, none⟩) L L, .slice none 0 0, .int .i64 (-1)] 71)).drew.heap[w.heap.size + 1 + 1]? = some (.cells #[.slice (some ⟨gs, 0, none⟩) L L, .slice (some ⟨gn, 0, none⟩) L L, .slice none 0 0, .int .i64 (-1)] 71 (0, 0)) := by
    have := heap_alloc_new ((w.alloc (.cells (u8s Z).toArray 5)).alloc (.cells (u8s Z).toArray 5)) (.cells #[.slice (some ⟨gs, 0, none⟩) L L, .slice (some ⟨gn, 0, none⟩) L L, .slice none 0 0, .int .i64 (-1)] 71)
    simp only [alloc_size] at this
    exact this
  have hz : ((((w.alloc (.cells (u8s Z).toArray 5)).alloc (.cells (u8s Z).toArray 5)).alloc (.cells #[.slice (some ⟨gs, 0, none⟩) L L, .slice (some ⟨gn, 0, none⟩) L L, .slice none 0 0, .int .i64 (-1)] 71)).drew).heap.size = w.heap.size + 3 := by simp
  have hZ' : Z = List.replicate (64 * k) 0 := by rw [hZ, hL]
  refine ⟨_, gs, gn, _, [], L, rfl, ⟨by omega, by omega, by omega, by omega, b2, ?_, ?_, by simp [freshE]; omega, by simp [freshE]; omega, hL, h0, h1, World.ownsRow_nil _ _ _ _, fun b hb => by simp [Value.ownBlock] at hb, rfl, by simp, fun i n v hi => by simp at hi, fun i hi => by rw [hz]; omega, by simp [freshE], by simp [freshE]⟩⟩
  · have e : (freshE k).S = Z := hZ'.symm
    rw [e]
    rcases hc with ⟨rfl, _⟩ | ⟨rfl, _⟩
    · exact b0
    · exact b1
  · have e : (freshE k).N = Z := hZ'.symm
    rw [e]
    rcases hc with ⟨_, rfl⟩ | ⟨_, rfl⟩
    · exact b1
    · exact b0
set_option maxRecDepth 100000 in
set_option maxHeartbeats 2000000 in
theorem new_any (k : Nat) (x : Int) (hx : x = k) (h0 : 16 ≤ k) (h1 : k ≤ 256) (w : World) : Calls Try.prog 11 #[.int .i64 x] w (NewRes k w) := by
  obtain ⟨L, HL⟩ : ∃ L, Hid (L = 64 * k) := ⟨_, rfl⟩
  obtain ⟨Z, HZ⟩ : ∃ Z, Hid (Z = List.replicate L (0 : Int)) := ⟨_, rfl⟩
  have hmk : ∀ W : World, (Instr.makeSlice 42 (.int .i64 (x * 64)) (.int .i64 (x * 64))).run Try.prog W = .ok (.slice (some ⟨W.heap.size, 0, none⟩) L L) (W.alloc (.cells (u8s Z).toArray 5)) := fun W => by
    rw [HZ.out]; exact make_u8 L (x * 64) (by rw [HL.out]; omega) (by rw [HL.out]; omega) W
  have hx0 : 16 ≤ x := by omega
  have hx1 : x ≤ 256 := by omega
  clear hx
  go_enter Try.func11, Try.ntmps11
  go_wp2
  go_region
  all_goals
    go_wp2
    go_ret2
    refine ⟨_, _, rfl, fresh_at w _ _ (by omega) L k Z HL.out HZ.out h0 h1, fun i hi => hi.1, ?_, by simp⟩
    exact ((((Below.refl _ _).alloc (Nat.le_refl _) _).alloc (by simp) _).alloc (by simp; omega) _).drew
end

end Go.Proofs.Ytdcplaonafmbjaa
