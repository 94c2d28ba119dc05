/- A disk, its journal and memory of one's own, on the way through a commit. -/
import Derived.Test.YtdcplaonafmbjaaJRight
namespace Go.Proofs.Ytdcplaonafmbjaa
open Go.RowKit

/-- Since w the disk at a was brought into the state st; the journal at gl counts sq; the blocks of G are the walk's own. -/
def CS (w : World) (a : Addr) (gl : Nat) (F : Nat → Prop) (st : Dk) (sq : Int) (G : Nat → Prop) (W : World) : Prop :=
  ∃ F', DiskAt W (.pointer (some a)) st 20 F' ∧ (∀ i, F' i → F i ∨ w.heap.size ≤ i) ∧ (∀ i, G i → i < W.heap.size ∧ w.heap.size ≤ i ∧ ¬ F' i) ∧ Keeps (fun i => F i ∨ i = gl) w W ∧ W.heap[gl]? = some (.cells (logC a sq) 74 (0, 0))
section
variable {w : World} {a : Addr} {gl : Nat} {F : Nat → Prop} {st st' : Dk} {sq : Int} {G : Nat → Prop} {W W' : World}
theorem CS.did (h : CS w a gl F st sq G W) (hgl : ¬ F gl ∧ gl < w.heap.size) {F' : Nat → Prop} (hF' : ∀ i, F' i → F i ∨ w.heap.size ≤ i) (hG : ∀ i, G i → ¬ F' i) (hd : Did (.pointer (some a)) st' 20 F' W W') : CS w a gl F st' sq G W' ∧ ∀ i, G i → W'.heap[i]? = W.heap[i]? := by
  obtain ⟨F0, h1, h2, h3, h4, h5⟩ := h
  obtain ⟨F2, d1, d2, d3⟩ := hd
  have hg2 : ∀ i, G i → i < W.heap.size ∧ w.heap.size ≤ i := fun i hi => ⟨(h3 i hi).1, (h3 i hi).2.1⟩
  refine ⟨⟨F2, d1, fun i hi => ?_, fun i hi => ⟨Nat.lt_of_lt_of_le (hg2 i hi).1 d3.size, (hg2 i hi).2, fun hc => ?_⟩, h4.trans d3 (fun i hi => ?_), ?_⟩, fun i hi => d3.block i (hg2 i hi).1 (hG i hi)⟩
  · rcases d2 i hi with h | h
    · exact hF' i h
    · exact Or.inr (Nat.le_trans h4.size h)
  · rcases d2 i hc with h | h
    · exact hG i hi h
    · have := (hg2 i hi).1; omega
  · rcases hF' i hi with h | h
    · exact Or.inl (Or.inl h)
    · exact Or.inr h
  · refine (d3.block gl (heap_lt h5) (fun hc => ?_)).trans h5
    rcases hF' gl hc with h | h
    · exact hgl.1 h
    · omega
/-- Memory was made, or turned in the walk's own blocks. -/
theorem CS.mem (h : CS w a gl F st sq G W) (hgl : ¬ F gl ∧ gl < w.heap.size) (hk : Keeps G W W') : CS w a gl F st sq (fun i => G i ∨ (W.heap.size ≤ i ∧ i < W'.heap.size)) W' := by
  obtain ⟨F0, h1, h2, h3, h4, h5⟩ := h
  refine ⟨F0, h1.keep hk (fun i hi hg => (h3 i hg).2.2 hi), h2, fun i hi => ?_, h4.trans hk (fun i hi => Or.inr (h3 i hi).2.1), (hk.block gl (heap_lt h5) (fun hg => by have := (h3 gl hg).2.1; omega)).trans h5⟩
  rcases hi with hi | ⟨h6, h7⟩
  · exact ⟨Nat.lt_of_lt_of_le (h3 i hi).1 hk.size, (h3 i hi).2.1, (h3 i hi).2.2⟩
  · exact ⟨h7, Nat.le_trans h4.size h6, fun hc => by have := h1.fin i hc; omega⟩
theorem CS.below (h : CS w a gl F st sq G W) (hgl : ¬ F gl ∧ gl < w.heap.size) (hb : Below W.heap.size W W') : CS w a gl F st sq (fun i => G i ∨ (W.heap.size ≤ i ∧ i < W'.heap.size)) W' := h.mem hgl (Keeps.of_below hb)
theorem CS.mono {G' : Nat → Prop} (h : CS w a gl F st sq G W) (hG : ∀ i, G' i → G i) : CS w a gl F st sq G' W := by
  obtain ⟨F0, h1, h2, h3, h4, h5⟩ := h
  exact ⟨F0, h1, h2, fun i hi => h3 i (hG i hi), h4, h5⟩
theorem CS.drew (h : CS w a gl F st sq G W) : CS w a gl F st sq G W.drew := by
  obtain ⟨F0, h1, h2, h3, h4, h5⟩ := h
  exact ⟨F0, h1.drew, h2, h3, h4.drew, h5⟩
theorem CS.count (h : CS w a gl F st sq G W) (hgl : ¬ F gl ∧ gl < w.heap.size) (sq' : Int) : CS w a gl F st sq' G (W.setCell ⟨gl, 3, none⟩ (.int .u32 sq')) := by
  obtain ⟨F0, h1, h2, h3, h4, h5⟩ := h
  have hk : Keeps (fun i => i = gl) W (W.setCell ⟨gl, 3, none⟩ (.int .u32 sq')) := Keeps.setCell (F := fun i => i = gl) rfl _
  refine ⟨F0, h1.keep hk (fun i hi hg => ?_), h2, fun i hi => ⟨Nat.lt_of_lt_of_le (h3 i hi).1 hk.size, (h3 i hi).2⟩, h4.trans hk (fun i hi => Or.inl (Or.inr hi)), ?_⟩
  · subst hg
    rcases h2 i hi with h | h
    · exact hgl.1 h
    · omega
  · have := heap_setCell_at (i := 3) h5 (.int .u32 sq')
    simpa [logC] using this
theorem CS.log (h : CS w a gl F st sq G W) : W.heap[gl]? = some (.cells (logC a sq) 74 (0, 0)) := by
  obtain ⟨F0, h1, h2, h3, h4, h5⟩ := h
  exact h5
theorem CS.cells (h : CS w a gl F st sq G W) : W.cell? ⟨gl, 0, none⟩ = some (.pointer (some a)) ∧ W.cell? ⟨gl, 1, none⟩ = some (.int .i64 2) ∧ W.cell? ⟨gl, 2, none⟩ = some (.int .i64 6) ∧ W.cell? ⟨gl, 3, none⟩ = some (.int .u32 sq) ∧ gl < W.heap.size ∧ W.frozen? ⟨gl, 3, none⟩ = false := by
  have h5 := h.log
  exact ⟨cell_of_row _ _ _ _ _ _ h5, cell_of_row _ _ _ _ _ _ h5, cell_of_row _ _ _ _ _ _ h5, cell_of_row _ _ _ _ _ _ h5, heap_lt h5, frozen_of_row _ _ _ _ _ h5⟩
theorem CS.own (h : CS w a gl F st sq G W) {i : Nat} (hi : G i) : i < W.heap.size := by
  obtain ⟨F0, h1, h2, h3, h4, h5⟩ := h
  exact (h3 i hi).1
theorem CS.keeps (h : CS w a gl F st sq G W) : Keeps (fun i => F i ∨ i = gl) w W := by
  obtain ⟨F0, h1, h2, h3, h4, h5⟩ := h
  exact h4

/-- A flush of the journal's disk. -/
theorem CS.flush (h : CS w a gl F st sq G W) (hgl : ¬ F gl ∧ gl < w.heap.size) : Calls Try.prog 43 #[.pointer (some a)] W fun e W' => e = .returned (.tuple #[]) ∧ CS w a gl F (doE st barR) sq G W' ∧ ∀ i, G i → W'.heap[i]? = W.heap[i]? := by
  have h0 := h
  obtain ⟨F0, h1, h2, h3, h4, h5⟩ := h
  exact (flush_at h1).mono fun e W' ⟨he, hd⟩ => ⟨he, h0.did hgl h2 (fun i hi => (h3 i hi).2.2) hd⟩
/-- A write to it, out of a block of the walk's own. -/
theorem CS.write (h : CS w a gl F st sq G W) (hgl : ¬ F gl ∧ gl < w.heap.size) (n : Nat) (hn : n < 20) (g c : Nat) (D : List Int) (hD : D.length = 64) (hg : G g) {cur : Array Value} (hh : W.heap[g]? = some (.cells cur 5 (0, 0))) (ht : cur.toList.take 64 = u8s D) (hW : st.W.length < 1000000) :
    Calls Try.prog 39 #[.pointer (some a), .int .i64 (n : Int), .slice (some ⟨g, 0, none⟩) 64 c] W fun e W' => e = .returned (.int .i64 0) ∧ CS w a gl F (doE st (n, D, false)) sq G W' ∧ ∀ i, G i → W'.heap[i]? = W.heap[i]? := by
  have h0 := h
  obtain ⟨F0, h1, h2, h3, h4, h5⟩ := h
  rw [doE_write]
  exact (write_at h1 n hn _ D hD (fun w' hk => bytes_of_row hD ((hk.block g (h3 g hg).1 (h3 g hg).2.2).trans hh) ht) hW).mono fun e W' ⟨he, hd⟩ => ⟨he, h0.did hgl h2 (fun i hi => (h3 i hi).2.2) hd⟩
/-- A write to it, out of a block of the caller's. -/
theorem CS.write_arg (h : CS w a gl F st sq G W) (hgl : ¬ F gl ∧ gl < w.heap.size) (n : Nat) (hn : n < 20) {B : Nat} (hFB : ∀ i, F i → i < B) {x : Jw} (hx : JwNew w B x) (hW : st.W.length < 1000000) (hgB : gl < B) :
    Calls Try.prog 39 #[.pointer (some a), .int .i64 (n : Int), x.v] W fun e W' => e = .returned (.int .i64 0) ∧ CS w a gl F (doE st (n, x.D, false)) sq G W' ∧ ∀ i, G i → W'.heap[i]? = W.heap[i]? := by
  have h0 := h
  obtain ⟨F0, h1, h2, h3, h4, h5⟩ := h
  obtain ⟨gx, cx, cur, hxv, hb1, hb2, hh, ht⟩ := jw_kept hx h4 (fun i hi => by
    rcases hi with hi | hi
    · exact hFB i hi
    · omega)
  have hD : x.D.length = 64 := hx.2.1
  have hnF : ¬ F0 gx := fun hc => by
    rcases h2 gx hc with h | h
    · have := hFB gx h; omega
    · omega
  rw [doE_write, hxv]
  exact (write_at h1 n hn _ x.D hD (fun w' hk => bytes_of_row hD ((hk.block gx (heap_lt hh) hnF).trans hh) ht) hW).mono fun e W' ⟨he, hd⟩ => ⟨he, h0.did hgl h2 (fun i hi => (h3 i hi).2.2) hd⟩
end

/-- Requests in the walk's own blocks. -/
def TD (W : World) (G : Nat → Prop) (b : Nat) (v : Value) (L : List Rb) : Prop := ∃ E : List Rq, E.map rab = L ∧ W.ownsRow b 81 3 v E.length (rcells E) ∧ (∀ q, v.ownBlock = some q → G q) ∧ ∀ x ∈ E, x.b = false ∧ x.n < 256 ∧ x.D.length = 64 ∧ ∃ g cap cur, x.v = .slice (some ⟨g, 0, none⟩) 64 cap ∧ G g ∧ W.heap[g]? = some (.cells cur 5 (0, 0)) ∧ cur.toList.take 64 = u8s x.D
theorem TD.nil (W : World) (G : Nat → Prop) (b : Nat) : TD W G b (.slice none 0 0) [] := ⟨[], rfl, World.ownsRow_nil _ _ _ _, fun q hq => by simp [Value.ownBlock] at hq, fun x hx => by simp at hx⟩
theorem TD.keep {W W' : World} {G G' : Nat → Prop} {b : Nat} {v : Value} {L : List Rb} (h : TD W G b v L) (hk : ∀ i, G i → W'.heap[i]? = W.heap[i]?) (hG : ∀ i, G i → G' i) : TD W' G' b v L := by
  obtain ⟨E, h1, h2, h3, h4⟩ := h
  refine ⟨E, h1, owns_keep h2 fun q hq => hk q (h3 q hq), fun q hq => hG q (h3 q hq), fun x hx => ?_⟩
  obtain ⟨e1, e2, e3, g, cap, cur, e4, e5, e6, e7⟩ := h4 x hx
  exact ⟨e1, e2, e3, g, cap, cur, e4, hG g e5, (hk g e5).trans e6, e7⟩
theorem TD.run {W : World} {G : Nat → Prop} {b : Nat} {v : Value} {L : List Rb} (h : TD W G b v L) : ∃ E : List Rq, E.map rab = L ∧ RqRow W v E ∧ ∀ x ∈ E, RqOk W x := by
  obtain ⟨E, h1, h2, h3, h4⟩ := h
  refine ⟨E, h1, RqRow.of_owns h2, fun x hx => ?_⟩
  obtain ⟨e1, e2, e3, g, cap, cur, e4, e5, e6, e7⟩ := h4 x hx
  refine Or.inr ⟨e1, e2, ?_, e3⟩
  rw [e4]
  exact bytes_of_row e3 e6 e7

end Go.Proofs.Ytdcplaonafmbjaa
