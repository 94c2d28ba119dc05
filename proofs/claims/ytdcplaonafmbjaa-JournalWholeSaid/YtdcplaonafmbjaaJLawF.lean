/- A journal of the law's own, its blocks named; writes that lie apart from it. -/
import Derived.Test.YtdcplaonafmbjaaJTold
import Derived.Test.YtdcplaonafmbjaaJRows
namespace Go.Proofs.Ytdcplaonafmbjaa
open Go.RowKit

/-- Since w0 a disk and a journal on it were made, the disk in blocks of F. -/
structure JAtF (w0 : World) (a : Addr) (gl : Nat) (st : Dk) (sq : Int) (F : Nat → Prop) (w : World) : Prop where
  d : DiskAt w (.pointer (some a)) st 20 F
  f : ∀ i, F i → w0.heap.size ≤ i
  g : ¬ F gl ∧ w0.heap.size ≤ gl
  l : w.heap[gl]? = some (.cells (logC a sq) 74 (0, 0))
  b : Below w0.heap.size w0 w
section
variable {w0 w w' : World} {a : Addr} {gl : Nat} {st st' : Dk} {sq : Int} {F : Nat → Prop}
theorem JAtF.at (h : JAtF w0 a gl st sq F w) : JAt w0 a gl st sq w := ⟨F, h.d, h.f, h.g.1, h.g.2, h.l, h.b⟩
theorem JAt.named (h : JAt w0 a gl st sq w) : ∃ F, JAtF w0 a gl st sq F w := by
  obtain ⟨F, h1, h2, h3, h4, h5, h6⟩ := h
  exact ⟨F, h1, h2, ⟨h3, h4⟩, h5, h6⟩
theorem JAtF.below (h : JAtF w0 a gl st sq F w) (hb : Below w.heap.size w w') : JAtF w0 a gl st sq F w' :=
  ⟨h.d.below hb, h.f, h.g, (hb.block gl (heap_lt h.l)).trans h.l, Below.step h.b hb⟩
theorem commit_lawF {w1 : World} (h : JAtF w0 a gl st sq F w) (hb : Below w.heap.size w w1) {v : Value} {E : List Jw} (hJ : JwsTwo w1 w.heap.size w.heap.size v E) (hg : GoodL (E.map jab)) (hsq : 0 ≤ sq ∧ sq ≤ 1000) (hW : st.W.length < 800000) :
    Calls Try.prog 14 #[.pointer (some ⟨gl, 0, none⟩), v] w1 fun e w' => e = .returned (.int .i64 0) ∧ ∃ F', JAtF w0 a gl (runE st (opsC sq (E.map jab))) (sqC sq (E.map jab)) F' w' ∧ (∀ i, F' i → F i ∨ w1.heap.size ≤ i) ∧ Keeps (fun i => F i ∨ i = gl) w1 w' := by
  have h1 := h.below hb
  have hgw : gl < w.heap.size := heap_lt h.l
  have hcs : CS w1 a gl F st sq (fun _ => False) w1 := ⟨F, h1.d, fun i hi => Or.inl hi, fun i hi => hi.elim, Keeps.refl _ _, h1.l⟩
  have hgl : ¬ F gl ∧ gl < w1.heap.size := ⟨h.g.1, Nat.lt_of_lt_of_le hgw hb.size⟩
  have fin : ∀ {st' : Dk} {sq' : Int} {w' : World}, CS w1 a gl F st' sq' (fun _ => False) w' → ∃ F', JAtF w0 a gl st' sq' F' w' ∧ (∀ i, F' i → F i ∨ w1.heap.size ≤ i) ∧ Keeps (fun i => F i ∨ i = gl) w1 w' := by
    intro st' sq' w' hc
    obtain ⟨F', c1, c2, _, c4, c5⟩ := hc
    have hsz : w0.heap.size ≤ w1.heap.size := h1.b.size
    refine ⟨F', ⟨c1, fun i hi => ?_, ⟨fun hc => ?_, h.g.2⟩, c5, h1.b.trans (c4.to_below (fun i hi => ?_) hsz)⟩, c2, c4⟩
    · rcases c2 i hi with h2 | h2
      · exact h.f i h2
      · omega
    · rcases c2 gl hc with h2 | h2
      · exact h.g.1 h2
      · omega
    · rcases hi with hi | hi
      · exact h.f i hi
      · subst hi; exact h.g.2
  unfold opsC sqC
  by_cases h0 : (E.map jab).length = 0
  · rw [if_pos h0, if_pos h0]
    rw [List.length_map] at h0
    have hv := RowAt.of_owns hJ.1
    obtain ⟨p, c, hv2, _⟩ := jws_open hv
    rw [h0] at hv2
    subst hv2
    exact (commit_none hcs hgl p c).mono fun e w' ⟨he, hc⟩ => ⟨he, fin hc⟩
  · rw [if_neg h0, if_neg h0]
    rw [List.length_map] at h0
    exact (commit_some hcs hgl h.d.fin hgw v E hJ hg (by omega) hsq hW).mono fun e w' ⟨he, hc⟩ => ⟨he, fin hc⟩
end

/-- Writes whose blocks are all of P. -/
structure Apart (P : Nat → Prop) (v : Value) (E : List Jw) : Prop where
  row : ∀ q, v.ownBlock = some q → P q
  dat : ∀ x ∈ E, ∀ q, x.v.ownBlock = some q → P q
theorem JwsTwo.same {w w' : World} {b B : Nat} {v : Value} {E : List Jw} {P : Nat → Prop} (h : JwsTwo w b B v E) (hp : Apart P v E) (hk : ∀ q, P q → q < w.heap.size → w'.heap[q]? = w.heap[q]?) : JwsTwo w' b B v E := by
  refine ⟨owns_keep h.1 fun q hq => hk q (hp.row q hq) (h.1.lt q hq).2, fun x hx => ?_⟩
  obtain ⟨h1, h2, g, cap, cur, h3, h4, h5, h6⟩ := h.2 x hx
  have hg := hp.dat x hx g (by rw [h3]; rfl)
  exact ⟨h1, h2, g, cap, cur, h3, h4, (hk g hg (heap_lt h5)).trans h5, h6⟩
theorem JwsTwo.base {w : World} {b B b' B' : Nat} {v : Value} {E : List Jw} (h : JwsTwo w b B v E) (h1 : b' ≤ b) (h2 : B' ≤ B) : JwsTwo w b' B' v E := by
  refine ⟨?_, fun x hx => (h.2 x hx).mono h2⟩
  obtain ⟨h3, h4⟩ := h.1
  refine ⟨h3, ?_⟩
  rcases h4 with h4 | ⟨g, cap, cur, e1, e2, e3⟩
  · exact Or.inl h4
  · exact Or.inr ⟨g, cap, cur, e1, Nat.le_trans h1 e2, e3⟩
theorem JwsTwo.blocks {w : World} {b B : Nat} {v : Value} {E : List Jw} (h : JwsTwo w b B v E) : Apart (fun q => (b ≤ q ∨ B ≤ q) ∧ q < w.heap.size) v E := by
  refine ⟨fun q hq => ⟨Or.inl (h.1.lt q hq).1, (h.1.lt q hq).2⟩, fun x hx q hq => ?_⟩
  obtain ⟨h1, h2, g, cap, cur, h3, h4, h5, h6⟩ := h.2 x hx
  rw [h3] at hq
  have : g = q := by simpa [Value.ownBlock] using hq
  subst this
  exact ⟨Or.inr h4.1, heap_lt h5⟩
theorem Apart.mono {P Q : Nat → Prop} {v : Value} {E : List Jw} (h : Apart P v E) (hPQ : ∀ q, P q → Q q) : Apart Q v E := ⟨fun q hq => hPQ q (h.row q hq), fun x hx q hq => hPQ q (h.dat x hx q hq)⟩

/-- What was written last lies apart from the disk and its journal. -/
structure LastAt (w : World) (F : Nat → Prop) (gl : Nat) (v : Value) (E : List Jw) : Prop where
  two : JwsTwo w 0 0 v E
  ap : Apart (fun q => (¬ F q ∧ q ≠ gl) ∧ q < w.heap.size) v E
theorem LastAt.nil (w : World) (F : Nat → Prop) (gl : Nat) : LastAt w F gl (.slice none 0 0) [] :=
  ⟨⟨World.ownsRow_nil _ _ _ _, fun x hx => by simp at hx⟩, ⟨fun q hq => by simp [Value.ownBlock] at hq, fun x hx => by simp at hx⟩⟩
theorem LastAt.below {w w' : World} {F : Nat → Prop} {gl : Nat} {v : Value} {E : List Jw} (h : LastAt w F gl v E) (hb : Below w.heap.size w w') : LastAt w' F gl v E :=
  ⟨h.two.below hb, h.ap.mono fun _ hq => ⟨hq.1, Nat.lt_of_lt_of_le hq.2 hb.size⟩⟩
theorem LastAt.keeps {w w' : World} {F F' : Nat → Prop} {gl : Nat} {v : Value} {E : List Jw} (h : LastAt w F gl v E) (hk : Keeps (fun i => F i ∨ i = gl) w w') (hF : ∀ i, F' i → F i ∨ w.heap.size ≤ i) : LastAt w' F' gl v E := by
  refine ⟨h.two.same h.ap fun q hq hl => hk.block q hl fun hc => ?_, h.ap.mono fun q hq => ⟨⟨fun hc => ?_, hq.1.2⟩, Nat.lt_of_lt_of_le hq.2 hk.size⟩⟩
  · rcases hc with hc | hc
    · exact hq.1.1 hc
    · exact hq.1.2 hc
  · rcases hF q hc with h2 | h2
    · exact hq.1.1 h2
    · have := hq.2; omega
/-- Fresh writes lie apart from a disk that was there. -/
theorem LastAt.fresh {w0 w w1 : World} {a : Addr} {gl : Nat} {st : Dk} {sq : Int} {F : Nat → Prop} {v : Value} {E : List Jw} (h : JAtF w0 a gl st sq F w) (hJ : JwsTwo w1 w.heap.size w.heap.size v E) : LastAt w1 F gl v E := by
  refine ⟨hJ.base (Nat.zero_le _) (Nat.zero_le _), hJ.blocks.mono fun q hq => ⟨⟨fun hc => ?_, fun hc => ?_⟩, hq.2⟩⟩
  · have := h.d.fin q hc
    have := hq.1
    omega
  · have := heap_lt h.l
    have := hq.1
    omega

end Go.Proofs.Ytdcplaonafmbjaa
