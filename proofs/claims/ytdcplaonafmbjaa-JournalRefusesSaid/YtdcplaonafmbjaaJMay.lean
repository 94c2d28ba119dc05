/- What a journal's disk may be: strings that lie apart from it; crash, fuse, recovery. -/
import Derived.Test.YtdcplaonafmbjaaJScanLaw
import Derived.Test.YtdcplaonafmbjaaStrsIn
namespace Go.Proofs.Ytdcplaonafmbjaa
open Go.RowKit

theorem strT : Try.prog.underlying 49 = some (.slice 9) := by kernel_rfl
theorem strInfo : (Try.prog.info? 9).map (fun i => (i.zero, i.size, i.bytes)) = some (some (.string { data := #[] }), 1, 16) := by kernel_rfl
structure MayAt (w : World) (F : Nat → Prop) (gl b : Nat) (v : Value) (M : List ByteArray) : Prop where
  own : w.ownsRow b 9 1 v M.length (strs M)
  ap : ∀ q, v.ownBlock = some q → ¬ F q ∧ q ≠ gl
theorem MayAt.below {w w' : World} {F : Nat → Prop} {gl b : Nat} {v : Value} {M : List ByteArray} (h : MayAt w F gl b v M) (hb : Below w.heap.size w w') : MayAt w' F gl b v M := ⟨owns_below h.own hb, h.ap⟩
theorem MayAt.keeps {w w' : World} {F F' : Nat → Prop} {gl b : Nat} {v : Value} {M : List ByteArray} (h : MayAt w F gl b v M) (hk : Keeps (fun i => F i ∨ i = gl) w w') (hF : ∀ i, F' i → F i ∨ w.heap.size ≤ i) : MayAt w' F' gl b v M := by
  refine ⟨owns_keep h.own fun q hq => hk.block q (h.own.lt q hq).2 fun hc => ?_, fun q hq => ⟨fun hc => ?_, (h.ap q hq).2⟩⟩
  · rcases hc with hc | hc
    · exact (h.ap q hq).1 hc
    · exact (h.ap q hq).2 hc
  · rcases hF q hc with h2 | h2
    · exact (h.ap q hq).1 h2
    · have := (h.own.lt q hq).2; omega
section
variable {w0 w w' : World} {a : Addr} {gl : Nat} {st st' : Dk} {sq : Int} {F : Nat → Prop}
theorem JAtF.did (h : JAtF w0 a gl st sq F w) (hd : Did (.pointer (some a)) st' 20 F w w') : ∃ F', JAtF w0 a gl st' sq F' w' ∧ (∀ i, F' i → F i ∨ w.heap.size ≤ i) ∧ Keeps (fun i => F i ∨ i = gl) w w' := by
  obtain ⟨F', d1, d2, d3⟩ := hd
  refine ⟨F', ⟨d1, fun i hi => ?_, ⟨fun hc => ?_, h.g.2⟩, (d3.block gl (heap_lt h.l) h.g.1).trans h.l, h.b.trans (d3.to_below h.f h.b.size)⟩, d2, d3.mono fun i _ hi => Or.inl hi⟩
  · rcases d2 i hi with h2 | h2
    · exact h.f i h2
    · exact Nat.le_trans h.b.size h2
  · rcases d2 gl hc with h2 | h2
    · exact h.g.1 h2
    · have := heap_lt h.l; omega
theorem jatF_fuse (h : JAtF w0 a gl st sq F w) (n : Int) (hn : n ≤ 1000000) (hn0 : 0 ≤ n) : Calls Try.prog 22 #[.pointer (some a), .int .i64 n] w fun e w' => e = .returned (.tuple #[]) ∧ ∃ F', JAtF w0 a gl { st with fu := fuseE st.fu n } sq F' w' ∧ (∀ i, F' i → F i ∨ w.heap.size ≤ i) ∧ Keeps (fun i => F i ∨ i = gl) w w' :=
  (fuse_at h.d n hn hn0).mono fun _ _ ⟨he, hd⟩ => ⟨he, h.did hd⟩
theorem jatF_crash (h : JAtF w0 a gl st sq F w) (kv : Value) (K : List Bool) (hk : BoolsAt w0 kv K) (hK : K.length ≤ 9223372036854775807) :
    Calls Try.prog 26 #[.pointer (some a), kv] w fun e w' => e = .returned (.tuple #[]) ∧ ∃ F', JAtF w0 a gl (crashE st K) sq F' w' ∧ (∀ i, F' i → F i ∨ w.heap.size ≤ i) ∧ Keeps (fun i => F i ∨ i = gl) w w' :=
  (crash_at h.d kv K (fun _ hkw => RowAt.below hk (h.b.trans (hkw.to_below h.f h.b.size))) hK).mono fun _ _ ⟨he, hd⟩ => ⟨he, h.did hd⟩
theorem jatF_open (h : JAtF w0 a gl st sq F w) (hN : ByteL st.N) (hg : GoodL (openL st.N)) (hW : st.W.length < 900000) :
    Calls Try.prog 12 #[.pointer (some a), .int .i64 2, .int .i64 6] w fun e w' => ∃ gl2, e = .returned (.tuple #[.pointer (some ⟨gl2, 0, none⟩), .int .i64 0]) ∧ JAt w0 a gl2 (openE st) (seqO st.N) w' ∧ Keeps (fun i => F i ∨ i = gl) w w' :=
  (open_law h.d h.f h.b hN hg hW).mono fun _ _ ⟨gl2, he, hj, _, hk⟩ => ⟨gl2, he, hj, hk.mono fun _ _ hi => Or.inl hi⟩
end
theorem JAtF.grown {w0 w w' : World} {a : Addr} {gl : Nat} {st : Dk} {sq : Int} {F : Nat → Prop} {o : Obj} {r : Option Nat} (h : JAtF w0 a gl st sq F w) (hg : (w.alloc o).grownBy w' r) (hr : ∀ q, r = some q → w0.heap.size ≤ q ∧ ¬ F q ∧ q ≠ gl) : JAtF w0 a gl st sq F w' := by
  have h1 := h.below ((Below.refl _ _).alloc (Nat.le_refl _) o)
  have hk : Keeps (fun i => r = some i) (w.alloc o) w' := Keeps.grown hg fun q hq => hq
  exact ⟨h1.d.keep hk fun i hi hc => (hr i hc).2.1 hi, h.f, h.g, (hk.block gl (heap_lt h1.l) fun hc => (hr gl hc).2.2 rfl).trans h1.l, h1.b.trans (hk.to_below (fun i hi => (hr i hi).1) h1.b.size)⟩
theorem row_cells {w : World} {b n c size : Nat} {e : TypeId} {p : Option Addr} {xs : List Value} (h : w.ownsRow b e size (.slice p n c) n xs) (h0 : 0 < n) : ∃ g, p = some ⟨g, 0, none⟩ ∧ (b ≤ g ∧ n ≤ c) ∧ ∀ (j : Nat) (x : Value), xs[j]? = some x → w.cell? ⟨g, j, none⟩ = some x := by
  have hnc : n ≤ c := by
    obtain ⟨_, ⟨hv, h0'⟩ | ⟨g, cap, cur, hv, _, _, hc, _⟩⟩ := id h
    · omega
    · injection hv with _ _ e3; omega
  obtain ⟨q, cap, hv, hc⟩ := owns_slice h
  obtain ⟨g, hq, hb, hcell⟩ := hc h0
  injection hv with e1 _ _
  exact ⟨g, e1.trans hq, ⟨hb, hnc⟩, hcell⟩
theorem open_dat {C : List Int} {st : Dk} (hC : Mix st C) (hg : GoodL (openL C)) : dat (openE (liveE C)).N = recD C := by
  have hlive := live_dkw hC
  have : (openE (liveE C)).N = foldN C (openL C) := (run_emit hlive.on (good_wr hg (openL_LB hC.len hC.b))).1
  rw [this]; rfl
theorem aftF_len {X : List Int} {M : List Wr} (hX : X.length = 64 * 10) (hg : GoodL M) (hb : LB M) : (aftF X M).length = 64 * 10 := by
  have key : ∀ k, k ≤ M.length → (aftF X (M.take k)).length = 64 * 10 := by
    intro k
    induction k with
    | zero => intro _; exact hX
    | succ k ih =>
      intro hk
      rw [← List.take_append_getElem (show k < M.length by omega), aftF_snoc]
      have h1 := hg.n M[k] (List.getElem_mem _)
      exact putS_len (ih (by omega)) (by omega) (hb M[k] (List.getElem_mem _)).1
  have := key M.length (Nat.le_refl _)
  rwa [List.take_length] at this
theorem aftL_len : ∀ (Ls : List (List Wr)) {D : List Int}, D.length = 64 * 10 → GoodLs Ls → (aftL D Ls).length = 64 * 10
  | [], _, h, _ => h
  | L :: Ls, _, h, hg => aftL_len Ls (aftF_len h (hg L (by simp)).1 (hg L (by simp)).2) fun M hM => hg M (by simp [hM])

/-- What the data is behind k commits, as a string; all of them up to k. -/
def zD : List Int := List.replicate 640 0
def dK (L : List (Value × PutL)) (k : Nat) : List Int := aftL zD (wrLs (L.take k))
def mayL (L : List (Value × PutL)) (k : Nat) : List ByteArray := (List.range (k + 1)).map fun j => bytesS (dK L j)
theorem mayL_len (L : List (Value × PutL)) (k : Nat) : (mayL L k).length = k + 1 := by simp [mayL]
theorem mayL_snoc (L : List (Value × PutL)) (k : Nat) : mayL L (k + 1) = mayL L k ++ [bytesS (dK L (k + 1))] := by
  unfold mayL; rw [List.range_succ (n := k + 1), List.map_append]; rfl
theorem mayL_get (L : List (Value × PutL)) (k j : Nat) (hj : j ≤ k) : (mayL L k)[j]? = some (bytesS (dK L j)) := by
  unfold mayL
  rw [List.getElem?_map, List.getElem?_range (by omega)]; rfl
theorem dK_len (L : List (Value × PutL)) (k : Nat) : (dK L k).length = 64 * 10 := aftL_len _ (by unfold zD; exact List.length_replicate) (wrLs_good _)
theorem dK_snoc (L : List (Value × PutL)) (k : Nat) (hk : k < L.length) : dK L (k + 1) = aftF (dK L k) (wrsF L[k].2) := by
  unfold dK; rw [wrLs_snoc L k hk, aftL_snoc]
theorem wrLs_take (L : List (Value × PutL)) (k j : Nat) (hj : j ≤ k) : (wrLs (L.take k)).take j = wrLs (L.take j) := by
  unfold wrLs
  rw [← List.map_take, List.take_take, Nat.min_eq_left hj]
/-- The state behind k commits, with power for f more. -/
def stF (L : List (Value × PutL)) (f : Nat) (k : Nat) : Dk × Int := stK (tick (freshE 20) f, 0) L k
theorem whole_end (L : List (Value × PutL)) (f k ln : Nat) (hk : k ≤ L.length) (hk2 : k ≤ 10) (K : List Bool) (hl : ln ≤ k ∧ (ln = 0 ∨ (stF L f ln).1.fu ≠ 0)) :
    let C := crashS (stF L f k).1.S (stF L f k).1.W K
    ByteL C ∧ GoodL (openL C) ∧ bytesS (dat (openE (crashE (stF L f k).1 K)).N) ∈ (mayL L k).drop ln := by
  intro C
  have hlen : (wrLs (L.take k)).length = k := by unfold wrLs; rw [List.length_map, List.length_take]; omega
  obtain ⟨hm, hg, j, hj, hr, hle⟩ := whole_plain (wrLs (L.take k)) f fresh_rest (by omega) (by omega) (wrLs_good _) K
  have hm' : Mix (stF L f k).1 C := hm
  have hg' : GoodL (openL C) := hg
  refine ⟨hm'.b, hg', ?_⟩
  have e : dat (openE (crashE (stF L f k).1 K)).N = recD C := open_dat hm' hg'
  have hjk : j ≤ k := by omega
  have hlj : ln ≤ j := by
    rcases hl.2 with h0 | h0
    · omega
    · refine hle ln (by omega) ?_
      rw [wrLs_take L k ln hl.1]
      exact h0
  have e2 : recD C = dK L j := by
    have : recD C = aftL (List.replicate 640 0) ((wrLs (L.take k)).take j) := hr
    rw [this, wrLs_take L k j hjk]; rfl
  rw [e, e2, List.mem_iff_getElem?]
  exact ⟨j - ln, by rw [List.getElem?_drop, show ln + (j - ln) = j by omega, mayL_get L k j hjk]⟩

end Go.Proofs.Ytdcplaonafmbjaa
