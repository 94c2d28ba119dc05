/- Words and requests that a commit makes. -/
import Derived.Test.YtdcplaonafmbjaaJCommit0
namespace Go.Proofs.Ytdcplaonafmbjaa
open Go.RowKit

theorem word_new (n : Int) (h0 : 0 ≤ n) (h1 : n < 4294967296) (w W : World) (hb : Below w.heap.size w W) (hs : W.heap.size = w.heap.size) : Calls Try.prog 44 #[.int .u32 n] W fun e w' => e = .returned (.slice (some ⟨w.heap.size, 0, none⟩) 4 4) ∧ Below w.heap.size w w' ∧ BytesAt w' (.slice (some ⟨w.heap.size, 0, none⟩) 4 4) (wordB n) := by
  refine (word_any n h0 h1 W).mono ?_
  rintro e w' ⟨rfl, rfl⟩
  rw [← hs]
  refine ⟨rfl, ?_, bytes_of_row (cur := (u8s (wordB n)).toArray) rfl (heap_alloc_new W _) (by simp [u8s, wordB])⟩
  rw [hs]
  exact hb.alloc (by omega) _
/-- A row of the walk's own is turned. -/
theorem CS.copied {w : World} {a : Addr} {gl : Nat} {F : Nat → Prop} {st : Dk} {sq : Int} {G : Nat → Prop} {W W' : World} (h : CS w a gl F st sq G W) (hgl : ¬ F gl ∧ gl < w.heap.size) (hb : Below W.heap.size W W') {g : Nat} (hg : G g) (cs : Array Value) : CS w a gl F st sq G (W'.setRow g cs) :=
  (h.mem hgl ((Keeps.of_below hb).step (Keeps.setRow hg cs))).mono fun _ hi => Or.inl hi
/-- One more request. -/
theorem TD.snoc {W W2 W4 : World} {G : Nat → Prop} {b gg g2 cap2 cap4 : Nat} {v : Value} {E : List Rq} {n : Nat} {D : List Int} {cur2 : Array Value} {o : Obj}
    (ho : W.ownsRow b 81 3 v E.length (rcells E)) (h3 : ∀ q, v.ownBlock = some q → G q)
    (h4 : ∀ x ∈ E, x.b = false ∧ x.n < 256 ∧ x.D.length = 64 ∧ ∃ g cap cur, x.v = .slice (some ⟨g, 0, none⟩) 64 cap ∧ G g ∧ W.heap[g]? = some (.cells cur 5 (0, 0)) ∧ cur.toList.take 64 = u8s x.D)
    (hb2 : Below W.heap.size W W2) (hg2 : W.heap.size ≤ g2) (hh2 : W2.heap[g2]? = some (.cells cur2 5 (0, 0))) (ht2 : cur2.toList.take 64 = u8s D) (hn : n < 256) (hD : D.length = 64)
    (hown : W4.ownsRow b 81 3 (.slice (some ⟨gg, 0, none⟩) (E.length + 1) cap4) (E.length + 1) (rcells E ++ [.int .i64 (n : Int), .slice (some ⟨g2, 0, none⟩) 64 cap2, .bool false]))
    (hgrow : (W2.alloc o).grownBy W4 v.ownBlock) (hat : v.ownBlock = some gg ∨ gg = W2.heap.size + 1) :
    TD W4 (fun i => G i ∨ (W.heap.size ≤ i ∧ i < W4.heap.size)) b (.slice (some ⟨gg, 0, none⟩) (E.length + 1) cap4) (E.map rab ++ [(n, D, false)]) ∧ Keeps G W W4 := by
  have hsz : (W2.alloc o).heap.size = W2.heap.size + 1 := by simp
  have hs4 := hgrow.size
  refine ⟨⟨E ++ [⟨n, .slice (some ⟨g2, 0, none⟩) 64 cap2, D, false⟩], by rw [List.map_append]; rfl, ?_, fun q hq => ?_, fun x hx => ?_⟩, ((Keeps.of_below hb2).step (Keeps.alloc o)).step (Keeps.grown hgrow h3)⟩
  · rw [List.length_append, rcells_append]
    exact hown
  · have h5 := (hown.lt q hq).2
    have h6 : gg = q := by simpa [Value.ownBlock] using hq
    subst h6
    rcases hat with h | h
    · exact Or.inl (h3 _ h)
    · exact Or.inr ⟨by have := hb2.size; omega, h5⟩
  · rcases List.mem_append.1 hx with hx | hx
    · obtain ⟨e1, e2, e3, g, cap, cur, e4, e5, e6, e7⟩ := h4 x hx
      refine ⟨e1, e2, e3, g, cap, cur, e4, Or.inl e5, ?_, e7⟩
      have hne : v.ownBlock ≠ some g := own_ne ho e6 (by decide)
      have e8 := heap_alloc_keep (heap_below hb2 e6) o
      exact (hgrow.block g (heap_lt e8) (Ne.symm hne)).trans e8
    · rw [List.mem_singleton] at hx
      subst hx
      have e8 := heap_alloc_keep hh2 o
      have hne : v.ownBlock ≠ some g2 := fun hc => by have := (ho.lt g2 hc).2; omega
      have e9 := (hgrow.block g2 (heap_lt e8) (Ne.symm hne)).trans e8
      exact ⟨rfl, hn, hD, g2, cap2, cur2, rfl, Or.inr ⟨hg2, heap_lt e9⟩, e9, ht2⟩

theorem dataK_len (L : List Wr) : ∀ k, (dataK L k).length = k
  | 0 => rfl
  | k + 1 => by rw [dataK, List.length_append, dataK_len L k]; rfl
theorem emit_take {L : List Wr} {k : Nat} (hk : k < L.length) : emit (L.take (k + 1)) = emit (L.take k) ++ [(L[k].1, L[k].2, false)] := by
  unfold emit
  rw [← List.take_append_getElem hk, List.map_append]
  rfl
theorem dataK_step {L : List Wr} {k : Nat} (hk : k < L.length) : dataK L (k + 1) = dataK L k ++ [(3 + k, L[k].2, false)] := by
  rw [dataK, List.getElem?_eq_getElem hk]
  rfl
theorem headK_step {sq : Int} {L : List Wr} {k : Nat} (hk : k < L.length) : headK sq L (k + 1) = (headK sq L k).set (6 + k) ((L[k].1 : Nat) : Int) := by
  rw [headK, List.getElem?_eq_getElem hk]
  rfl
theorem CS.arg {w : World} {a : Addr} {gl B : Nat} {F : Nat → Prop} {st : Dk} {sq : Int} {G : Nat → Prop} {W : World} (h : CS w a gl F st sq G W) (hFB : ∀ i, F i → i < B) (hgB : gl < B) {x : Jw} (hx : JwNew w B x) : BytesAt W x.v x.D := by
  obtain ⟨gx, cx, cur, hxv, hb1, hb2, hh, ht⟩ := jw_kept hx h.keeps (fun i hi => by
    rcases hi with hi | hi
    · exact hFB i hi
    · omega)
  rw [hxv]
  exact bytes_of_row hx.2.1 hh ht
/-- At the loop's head. -/
structure LJ (w : World) (a : Addr) (gl : Nat) (F : Nat → Prop) (st : Dk) (sq : Int) (L : List Wr) (gn gh : Nat) (Z : List Int) (k : Nat) (td : Value) (W : World) : Prop where
  ex : ∃ G GT : Nat → Prop, CS w a gl F (runE st (dataK L k)) sq G W ∧ (G gn ∧ G gh) ∧ (∀ i, GT i → G i ∧ i ≠ gn ∧ i ≠ gh) ∧ TD W GT w.heap.size td (emit (L.take k))
  hh : W.heap[gh]? = some (.cells (u8s (headK sq L k)).toArray 5 (0, 0))
  hz : W.heap[gn]? = some (.cells (u8s Z).toArray 5 (0, 0))

theorem CS.jws {w : World} {a : Addr} {gl B : Nat} {F : Nat → Prop} {st : Dk} {sq : Int} {G : Nat → Prop} {W : World} (h : CS w a gl F st sq G W) (hFB : ∀ i, F i → i < B) (hgB : gl < B) {v : Value} {E : List Jw} (hJ : JwsTwo w B B v E) : JwsAt W v E := by
  have hk : ∀ i, B ≤ i → i < w.heap.size → W.heap[i]? = w.heap[i]? := fun i h1 h2 => h.keeps.block i h2 (fun hc => by
    rcases hc with hc | hc
    · have := hFB i hc; omega
    · omega)
  exact JwsTwo.at (b := B) (B := B) ⟨owns_keep hJ.1 fun q hq => hk q (hJ.1.lt q hq).1 (hJ.1.lt q hq).2, fun x hx => (hJ.2 x hx).keep fun i c h1 h2 => hk i h1 (heap_lt h2)⟩
theorem CS.runs {w : World} {a : Addr} {gl : Nat} {F : Nat → Prop} {st : Dk} {sq : Int} {G GT : Nat → Prop} {W : World} (h : CS w a gl F st sq G W) (hgl : ¬ F gl ∧ gl < w.heap.size) {b : Nat} {v : Value} {R : List Rb} (hT : TD W GT b v R) (hn : ∀ x ∈ R, x.1 < 20) (hl : R.length ≤ 100) (hW : st.W.length < 900000) :
    Calls Try.prog 47 #[.pointer (some a), v] W fun e W' => e = .returned (.int .i64 0) ∧ CS w a gl F (runE st (orderF R 0)) sq (fun _ => False) W' := by
  have h0 := h.mono (G' := fun _ => False) (fun _ hi => hi.elim)
  obtain ⟨F0, h1, h2, h3, h4, h5⟩ := h
  obtain ⟨E, hE, hv, hx⟩ := hT.run
  refine (run_any h1 v E hv hx (fun x hx _ => ?_) (by omega) ?_ hW).mono fun e W' ⟨he, hd⟩ => ⟨he, ?_⟩
  · exact hn (rab x) (by rw [← hE]; exact List.mem_map.2 ⟨x, hx, rfl⟩)
  · rw [← hE, List.length_map] at hl; exact hl
  · rw [hE] at hd
    exact (h0.did hgl h2 (fun i hi => hi.elim) hd).1

theorem TD.drew {W : World} {G : Nat → Prop} {b : Nat} {v : Value} {L : List Rb} (h : TD W G b v L) : TD W.drew G b v L := h
/-- step_copy_bytes, the slot of its result given outright: else the state behind it does not lie open, and the next region's walk does not come back. -/
theorem step_copy_at {w : World} {o : Oper} {a : Act} {K : Act → World → Prop} {Q : Exit → Act → World → Prop} {ops : Array Oper} {X : Prop} (dd : Option Nat) (hdd : o.dst = dd) (hgd : o.guard = none) (d s : Operand) (dT sT : TypeId) (ho : o.op = .call { callee := .builtin .copy, args := #[d, s], argTypes := #[dT, sT] }) (elem : TypeId) (hu : Try.prog.underlying dT = some (.slice elem)) (hsz : (Try.prog.info? elem).map (·.size) = some 1)
    (g off dLen dCap : Nat) (sv : Value) (hd : a.eval d = .slice (some ⟨g, off, none⟩) dLen dCap) (hs : a.eval s = sv) (cur D : List Int) (t : TypeId) (hg : w.heap[g]? = some (.cells (u8s cur).toArray t (0, 0)))
    (hb : BytesAt w sv D) (h0 : 0 < D.length) (hle : D.length ≤ dLen) (hfit : off + D.length ≤ cur.length)
    (h : K (a.put dd (goInt D.length)) (w.setRow g (u8s (over cur off D)).toArray)) : if Region.wanted o (yielded ops a.tmps) = true then Oper.wp Try.prog o a w K Q else X :=
  step_copy_bytes hgd d s dT sT ho elem hu hsz g off dLen dCap sv hd hs cur D t hg hb h0 hle hfit (by rw [hdd]; exact h)

end Go.Proofs.Ytdcplaonafmbjaa
