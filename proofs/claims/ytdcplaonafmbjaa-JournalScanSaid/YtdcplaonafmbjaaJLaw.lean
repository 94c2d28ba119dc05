/- A journal of the law's own: what is done with it. -/
import Derived.Test.YtdcplaonafmbjaaJCommit0
import Derived.Test.YtdcplaonafmbjaaJCommit
import Derived.Test.YtdcplaonafmbjaaJPl4
namespace Go.Proofs.Ytdcplaonafmbjaa
open Go.RowKit

/-- Since w0 a disk and a journal on it were made; the disk is in the state st, the journal counts sq. -/
def JAt (w0 : World) (a : Addr) (gl : Nat) (st : Dk) (sq : Int) (w : World) : Prop :=
  ∃ F, DiskAt w (.pointer (some a)) st 20 F ∧ (∀ i, F i → w0.heap.size ≤ i) ∧ ¬ F gl ∧ w0.heap.size ≤ gl ∧ w.heap[gl]? = some (.cells (logC a sq) 74 (0, 0)) ∧ Below w0.heap.size w0 w
section
variable {w0 w w' : World} {a : Addr} {gl : Nat} {st st' : Dk} {sq : Int}
theorem JAt.below (h : JAt w0 a gl st sq w) (hb : Below w.heap.size w w') : JAt w0 a gl st sq w' := by
  obtain ⟨F, h1, h2, h3, h4, h5, h6⟩ := h
  exact ⟨F, h1.below hb, h2, h3, h4, (hb.block gl (heap_lt h5)).trans h5, Below.step h6 hb⟩
theorem JAt.drew (h : JAt w0 a gl st sq w) : JAt w0 a gl st sq w.drew := by
  obtain ⟨F, h1, h2, h3, h4, h5, h6⟩ := h
  exact ⟨F, h1.drew, h2, h3, h4, h5, h6.drew⟩
theorem JAt.since (h : JAt w0 a gl st sq w) : Below w0.heap.size w0 w := by
  obtain ⟨F, h1, h2, h3, h4, h5, h6⟩ := h
  exact h6
theorem JAt.log (h : JAt w0 a gl st sq w) : w.heap[gl]? = some (.cells (logC a sq) 74 (0, 0)) := by
  obtain ⟨F, h1, h2, h3, h4, h5, h6⟩ := h
  exact h5
theorem JAt.did (h : JAt w0 a gl st sq w) (hd : ∀ F, DiskAt w (.pointer (some a)) st 20 F → (∀ i, F i → w0.heap.size ≤ i) → Did (.pointer (some a)) st' 20 F w w') : JAt w0 a gl st' sq w' := by
  obtain ⟨F, h1, h2, h3, h4, h5, h6⟩ := h
  obtain ⟨F', d1, d2, d3⟩ := hd F h1 h2
  refine ⟨F', d1, fun i hi => ?_, fun hc => ?_, h4, (d3.block gl (heap_lt h5) h3).trans h5, h6.trans (d3.to_below h2 h6.size)⟩
  · rcases d2 i hi with h | h
    · exact h2 i h
    · exact Nat.le_trans h6.size h
  · rcases d2 gl hc with h | h
    · exact h3 h
    · have := heap_lt h5; omega
theorem commit_law {w1 : World} (h : JAt w0 a gl st sq w) (hb : Below w.heap.size w w1) {v : Value} {E : List Jw} (hJ : JwsTwo w1 w.heap.size w.heap.size v E) (hg : GoodL (E.map jab)) (hsq : 0 ≤ sq ∧ sq ≤ 1000) (hW : st.W.length < 800000) :
    Calls Try.prog 14 #[.pointer (some ⟨gl, 0, none⟩), v] w1 fun e w' => e = .returned (.int .i64 0) ∧ JAt w0 a gl (runE st (opsC sq (E.map jab))) (sqC sq (E.map jab)) w' := by
  have h1 := h.below hb
  obtain ⟨F, d1, d2, d3, d4, d5, d6⟩ := h1
  have hfin : ∀ i, F i → w0.heap.size ≤ i := d2
  obtain ⟨F2, e1, e2, e3, e4, e5, e6⟩ := h
  have hgw : gl < w.heap.size := heap_lt e5
  have hcs : CS w1 a gl F2 st sq (fun _ => False) w1 := ⟨F2, e1.below hb, fun i hi => Or.inl hi, fun i hi => hi.elim, Keeps.refl _ _, d5⟩
  have hgl : ¬ F2 gl ∧ gl < w1.heap.size := ⟨e3, Nat.lt_of_lt_of_le hgw hb.size⟩
  have fin : ∀ {st' : Dk} {sq' : Int} {w' : World}, CS w1 a gl F2 st' sq' (fun _ => False) w' → JAt w0 a gl st' sq' w' := by
    intro st' sq' w' hc
    obtain ⟨F', c1, c2, _, c4, c5⟩ := hc
    have hsz : w0.heap.size ≤ w1.heap.size := d6.size
    refine ⟨F', c1, fun i hi => ?_, fun hc => ?_, e4, c5, d6.trans (c4.to_below (fun i hi => ?_) hsz)⟩
    · rcases c2 i hi with h | h
      · exact e2 i h
      · omega
    · rcases c2 gl hc with h | h
      · exact e3 h
      · omega
    · rcases hi with hi | hi
      · exact e2 i hi
      · subst hi; exact e4
  unfold opsC sqC
  by_cases h0 : (E.map jab).length = 0
  · rw [if_pos h0, if_pos h0]
    rw [List.length_map] at h0
    have hv := RowAt.of_owns hJ.1
    obtain ⟨p, c, hv2, _⟩ := jws_open hv
    rw [h0] at hv2
    subst hv2
    exact (commit_none hcs hgl p c).mono fun e w' ⟨he, hc⟩ => ⟨he, fin hc⟩
  · rw [if_neg h0, if_neg h0]
    rw [List.length_map] at h0
    exact (commit_some hcs hgl e1.fin hgw v E hJ hg (by omega) hsq hW).mono fun e w' ⟨he, hc⟩ => ⟨he, fin hc⟩
/-- Open, where a disk of the law's own is. -/
theorem open_law {F : Nat → Prop} (h1 : DiskAt w (.pointer (some a)) st 20 F) (h2 : ∀ i, F i → w0.heap.size ≤ i) (h3 : Below w0.heap.size w0 w) (hN : ByteL st.N) (hg : GoodL (openL st.N)) (hW : st.W.length < 900000) :
    Calls Try.prog 12 #[.pointer (some a), .int .i64 2, .int .i64 6] w fun e w' => ∃ gl, e = .returned (.tuple #[.pointer (some ⟨gl, 0, none⟩), .int .i64 0]) ∧ JAt w0 a gl (openE st) (seqO st.N) w' ∧ w.heap.size ≤ gl ∧ Keeps F w w' :=
  (open_at h1 hN (fun x hx => ⟨(hg.n x hx).2, Or.inr (by have := (hg.n x hx).1; omega)⟩) hW).mono fun e w' ⟨gl, he, hz, F', c1, c2, c3, c4, c5⟩ => ⟨gl, he, ⟨F', c1, fun i hi => by
    rcases c2 i hi with h | h
    · exact h2 i h
    · exact Nat.le_trans h3.size h, c3, Nat.le_trans h3.size hz, c5, h3.trans (c4.to_below h2 h3.size)⟩, hz, c4⟩
theorem state_law (h : JAt w0 a gl st sq w) : Calls Try.prog 21 #[.pointer (some a)] w fun e w' => e = .returned (.string (bytesS (dat st.N))) ∧ Below w.heap.size w w' := by
  obtain ⟨F, h1, _⟩ := h
  exact state_at h1
theorem jat_at (h : JAt w0 a gl st sq w) (n : Nat) (hn : n < 20) : Calls Try.prog 33 #[.pointer (some a), .int .i64 (n : Int)] w (CloneRes (sec st.N n) w) := by
  obtain ⟨F, h1, _⟩ := h
  exact at_at h1 n hn
theorem jat_crash (h : JAt w0 a gl st sq w) (kv : Value) (K : List Bool) (hk : BoolsAt w0 kv K) (hK : K.length ≤ 9223372036854775807) :
    Calls Try.prog 26 #[.pointer (some a), kv] w fun e w' => e = .returned (.tuple #[]) ∧ JAt w0 a gl (crashE st K) sq w' := by
  have h0 := h
  obtain ⟨F, h1, h2, h3, h4, h5, h6⟩ := h
  have hkk : ∀ w', Keeps F w w' → BoolsAt w' kv K := fun w' hkw => RowAt.below hk (h6.trans (hkw.to_below h2 h6.size))
  refine (crash_at h1 kv K hkk hK).mono fun e w' ⟨he, hd⟩ => ⟨he, ?_⟩
  obtain ⟨F', d1, d2, d3⟩ := hd
  refine ⟨F', d1, fun i hi => ?_, fun hc => ?_, h4, (d3.block gl (heap_lt h5) h3).trans h5, h6.trans (d3.to_below h2 h6.size)⟩
  · rcases d2 i hi with h | h
    · exact h2 i h
    · exact Nat.le_trans h6.size h
  · rcases d2 gl hc with h | h
    · exact h3 h
    · have := heap_lt h5; omega
theorem jat_open (h : JAt w0 a gl st sq w) (hN : ByteL st.N) (hg : GoodL (openL st.N)) (hW : st.W.length < 900000) :
    Calls Try.prog 12 #[.pointer (some a), .int .i64 2, .int .i64 6] w fun e w' => ∃ gl2, e = .returned (.tuple #[.pointer (some ⟨gl2, 0, none⟩), .int .i64 0]) ∧ JAt w0 a gl2 (openE st) (seqO st.N) w' ∧ w'.heap[gl]? = w.heap[gl]? := by
  obtain ⟨F, h1, h2, h3, h4, h5, h6⟩ := h
  exact (open_law h1 h2 h6 hN hg hW).mono fun e w' ⟨gl2, he, hj, hz, hk⟩ => ⟨gl2, he, hj, hk.block gl (heap_lt h5) h3⟩
end
theorem zeros_open : openL (freshE 20).N = [] := (open_nohead (by
  show sec (List.replicate (64 * 20) 0) 2 = zS
  unfold sec zS
  rw [List.drop_replicate, List.take_replicate]; rfl)).1
theorem open_fresh : openE (freshE 20) = freshE 20 := by unfold openE; rw [zeros_open]; rfl
theorem seq_fresh : seqO (freshE 20).N = 0 := by
  unfold seqO
  rw [(open_nohead (N := (freshE 20).N) (by
    show sec (List.replicate (64 * 20) 0) 2 = zS
    unfold sec zS
    rw [List.drop_replicate, List.take_replicate]; rfl)).2]
  rfl

end Go.Proofs.Ytdcplaonafmbjaa
