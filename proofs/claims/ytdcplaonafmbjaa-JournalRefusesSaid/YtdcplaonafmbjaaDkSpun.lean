/- spun: a disk behind writes, and a Flush behind some of them. -/
import Derived.Test.YtdcplaonafmbjaaDkHelp
namespace Go.Proofs.Ytdcplaonafmbjaa
open Go.RowKit

/-- pick, as a number. -/
def pkN (a n : Int) : Nat := (pk a n).toNat
theorem pkN_lt (a : Int) (n : Nat) (h0 : 0 < n) (h1 : n < 9223372036854775808) : pkN a n < n := by
  have := pk_range a n (by omega) (by omega)
  unfold pkN; omega
theorem pickN (a : Int) (x : Int) (w : World) (h0 : 0 < x) (h1 : x < 9223372036854775808) :
    Calls Try.prog 23 #[.int .i64 a, .int .i64 x] w fun e w' => e = .returned (.int .i64 (pkN a x : Int)) ∧ w = w' :=
  (pick_any a x w h0 h1).mono fun e w' ⟨he, hw⟩ => ⟨by
    rw [he]
    have := pk_range a x h0 h1
    exact ret_i (by unfold pkN; omega), hw⟩

def putOne (st : Dk) (x : Int × ByteArray) : Dk := writeE st (pkN x.1 16) (secS x.2)
def spunK (l : List (Int × ByteArray)) (flush : Int) : Nat → Dk
  | 0 => freshE 16
  | k + 1 => match l[k]? with
    | some x => putOne (if (k : Int) = flush then flushE (spunK l flush k) else spunK l flush k) x
    | none => spunK l flush k
def spunE (l : List (Int × ByteArray)) (flush : Int) : Dk := if (l.length : Int) ≤ flush then flushE (spunK l flush l.length) else spunK l flush l.length

theorem flushE_W (st : Dk) : (flushE st).W.length ≤ st.W.length := by unfold flushE; split <;> simp
theorem writeE_W (st : Dk) (n : Nat) (D : List Int) : (writeE st n D).W.length ≤ st.W.length + 1 := by unfold writeE; split <;> simp
theorem spunK_W (l : List (Int × ByteArray)) (flush : Int) : ∀ k, (spunK l flush k).W.length ≤ k
  | 0 => Nat.le_refl _
  | k + 1 => by
    have ih := spunK_W l flush k
    unfold spunK
    split
    · unfold putOne
      refine Nat.le_trans (writeE_W _ _ _) ?_
      split
      · have := flushE_W (spunK l flush k); omega
      · omega
    · omega

section
variable {w w' : World} {d : Value} {st : Dk} {k : Nat} {F : Nat → Prop}
theorem write_at (h : DiskAt w d st k F) (n : Nat) (hn : n < k) (v : Value) (D : List Int) (hD : D.length = 64) (hb : ∀ w', Keeps F w w' → BytesAt w' v D) (hs : st.W.length < 1000000) :
    Calls Try.prog 39 #[d, .int .i64 (n : Int), v] w fun e w' => e = .returned (.int .i64 0) ∧ Did d (writeE st n D) k F w w' := by
  obtain ⟨gd, gs, gn, wt, E, L, rfl, h⟩ := h
  exact write_lies h n hn v D hD hb (by rw [h.len]; exact hs)
theorem flush_at (h : DiskAt w d st k F) : Calls Try.prog 43 #[d] w fun e w' => e = .returned (.tuple #[]) ∧ Did d (flushE st) k F w w' := by
  obtain ⟨gd, gs, gn, wt, E, L, rfl, h⟩ := h
  exact flush_lies h
theorem crash_at (h : DiskAt w d st k F) (kv : Value) (K : List Bool) (hk : ∀ w', Keeps F w w' → BoolsAt w' kv K) (hK : K.length ≤ 9223372036854775807) :
    Calls Try.prog 26 #[d, kv] w fun e w' => e = .returned (.tuple #[]) ∧ Did d (crashE st K) k F w w' := by
  obtain ⟨gd, gs, gn, wt, E, L, rfl, h⟩ := h
  exact crash_lies h kv K hk hK
theorem fuse_at (h : DiskAt w d st k F) (n : Int) (hn : n ≤ 1000000) (hn0 : 0 ≤ n) : Calls Try.prog 22 #[d, .int .i64 n] w fun e w' => e = .returned (.tuple #[]) ∧ Did d { st with fu := fuseE st.fu n } k F w w' := by
  obtain ⟨gd, gs, gn, wt, E, L, rfl, h⟩ := h
  exact (fuse_lies h n hn hn0).mono fun e w' ⟨he, h1, h2⟩ => ⟨he, F, ⟨gd, gs, gn, wt, E, L, rfl, h1⟩, fun _ hi => Or.inl hi, h2⟩
theorem size_at (h : DiskAt w d st k F) : Calls Try.prog 38 #[d] w fun e w' => e = .returned (.int .i64 (k : Int)) ∧ w = w' := by
  obtain ⟨gd, gs, gn, wt, E, L, rfl, h⟩ := h
  exact size_lies h
theorem waiting_at (h : DiskAt w d st k F) : Calls Try.prog 31 #[d] w fun e w' => e = .returned (.int .i64 (st.W.length : Int)) ∧ w = w' := by
  obtain ⟨gd, gs, gn, wt, E, L, rfl, h⟩ := h
  exact waiting_lies h
theorem dead_at (h : DiskAt w d st k F) : Calls Try.prog 25 #[d] w fun e w' => e = .returned (.bool (st.fu == 0)) ∧ w = w' := by
  obtain ⟨gd, gs, gn, wt, E, L, rfl, h⟩ := h
  exact dead_lies h
theorem image_at (h : DiskAt w d st k F) : Calls Try.prog 30 #[d] w (CloneRes st.S w) := by
  obtain ⟨gd, gs, gn, wt, E, L, rfl, h⟩ := h
  exact image_lies h
theorem read_at (h : DiskAt w d st k F) (n : Nat) (hn : n < k) : Calls Try.prog 49 #[d, .int .i64 (n : Int)] w (ReadRes (sec st.N n) w) := by
  obtain ⟨gd, gs, gn, wt, E, L, rfl, h⟩ := h
  exact read_lies h n hn
theorem at_at (h : DiskAt w d st k F) (n : Nat) (hn : n < k) : Calls Try.prog 33 #[d, .int .i64 (n : Int)] w (CloneRes (sec st.N n) w) := by
  obtain ⟨gd, gs, gn, wt, E, L, rfl, h⟩ := h
  exact at_lies h n hn
theorem DiskAt.ptr (h : DiskAt w d st k F) : ∃ a, d = .pointer (some a) := by
  obtain ⟨gd, gs, gn, wt, E, L, rfl, h⟩ := h
  exact ⟨_, rfl⟩
theorem DiskAt.lens (h : DiskAt w d st k F) : st.S.length = 64 * k ∧ st.N.length = 64 * k := by
  obtain ⟨gd, gs, gn, wt, E, L, rfl, h⟩ := h
  exact ⟨by rw [h.ls, h.hL], by rw [h.ln, h.hL]⟩
/-- Bytes in a new block stay while a disk that was there changes. -/
theorem NewBytes.keep {D : List Int} {v : Value} {w1 w2 : World} (h : NewBytes D w1 v w2) (hF : ∀ i, F i → i < w1.heap.size) : ∀ w', Keeps F w2 w' → BytesAt w' v D := fun w' hk => by
  obtain ⟨g, cap, cur, rfl, ⟨hg, _⟩, h1, h2, _⟩ := h
  exact bytes_of_row rfl ((hk.block g (heap_lt h1) (fun hc => by have := hF g hc; omega)).trans h1) h2
end

theorem DiskAt.drew {w : World} {d : Value} {st : Dk} {k : Nat} {F : Nat → Prop} (h : DiskAt w d st k F) : DiskAt w.drew d st k F := h.keep (G := fun _ => False) (Keeps.refl _ _).drew (fun _ _ h => h)
theorem Did.keeps {d : Value} {st : Dk} {k : Nat} {F : Nat → Prop} {w w' : World} (h : Did d st k F w w') : Keeps F w w' := by
  obtain ⟨_, _, _, h⟩ := h
  exact h
theorem Keeps.cell {F : Nat → Prop} {w w' : World} (h : Keeps F w w') {g i : Nat} (hg : g < w.heap.size) (hn : ¬ F g) : w'.cell? ⟨g, i, none⟩ = w.cell? ⟨g, i, none⟩ := World.cell?_of_block (h.block g hg hn)
/-- A disk of the call's own. -/
def OwnDisk (w : World) (d : Value) (st : Dk) (k : Nat) (w' : World) : Prop := ∃ F, DiskAt w' d st k F ∧ (∀ i, F i → w.heap.size ≤ i) ∧ Below w.heap.size w w'
theorem OwnDisk.did {w w1 w2 : World} {d : Value} {st' : Dk} {k : Nat} {F : Nat → Prop} (hF : ∀ i, F i → w.heap.size ≤ i) (hb : Below w.heap.size w w1) (h : Did d st' k F w1 w2) : OwnDisk w d st' k w2 := by
  obtain ⟨F', h1, h2, h3⟩ := h
  refine ⟨F', h1, fun i hi => ?_, hb.trans (h3.to_below hF hb.size)⟩
  rcases h2 i hi with h | h
  · exact hF i h
  · exact Nat.le_trans hb.size h
def SpunRes (l : List (Int × ByteArray)) (flush : Int) (w : World) (e : Ending) (w' : World) : Prop := ∃ a, e = .returned (.pointer (some a)) ∧ OwnDisk w (.pointer (some a)) (spunE l flush) 16 w'


end Go.Proofs.Ytdcplaonafmbjaa
