/- spun: a disk behind writes, and a Flush behind some of them. -/
import Derived.Test.YtappfgjomndlmaaDkHelp
namespace Go.Proofs.Ytappfgjomndlmaa
open Go.RowKit

/-- pick, as a number. -/
def pkN (a n : Int) : Nat := (pk a n).toNat
theorem pkN_lt (a : Int) (n : Nat) (h0 : 0 < n) (h1 : n < 9223372036854775808) : pkN a n < n := by
  have := pk_range a n (by omega) (by omega)
  unfold pkN; omega
theorem pickN (a : Int) (x : Int) (w : World) (h0 : 0 < x) (h1 : x < 9223372036854775808) :
    Calls Try.prog 10 #[.int .i64 a, .int .i64 x] w fun e w' => e = .returned (.int .i64 (pkN a x : Int)) ∧ w = w' :=
  (pick_any a x w h0 h1).mono fun e w' ⟨he, hw⟩ => ⟨by
    rw [he]
    have := pk_range a x h0 h1
    exact ret_i (by unfold pkN; omega), hw⟩

def putOne (st : Dk) (x : Int × ByteArray) : Dk := writeE st (pkN x.1 16) (secS x.2)
def spunK (l : List (Int × ByteArray)) (flush : Int) : Nat → Dk
  | 0 => freshE 16
  | k + 1 => match l[k]? with
    | some x => putOne (if (k : Int) = flush then flushE (spunK l flush k) else spunK l flush k) x
    | none => spunK l flush k
def spunE (l : List (Int × ByteArray)) (flush : Int) : Dk := if (l.length : Int) ≤ flush then flushE (spunK l flush l.length) else spunK l flush l.length

theorem flushE_W (st : Dk) : (flushE st).W.length ≤ st.W.length := by unfold flushE; split <;> simp
theorem writeE_W (st : Dk) (n : Nat) (D : List Int) : (writeE st n D).W.length ≤ st.W.length + 1 := by unfold writeE; split <;> simp
theorem spunK_W (l : List (Int × ByteArray)) (flush : Int) : ∀ k, (spunK l flush k).W.length ≤ k
  | 0 => Nat.le_refl _
  | k + 1 => by
    have ih := spunK_W l flush k
    unfold spunK
    split
    · unfold putOne
      refine Nat.le_trans (writeE_W _ _ _) ?_
      split
      · have := flushE_W (spunK l flush k); omega
      · omega
    · omega

section
variable {w w' : World} {d : Value} {st : Dk} {k : Nat} {F : Nat → Prop}
theorem write_at (h : DiskAt w d st k F) (n : Nat) (hn : n < k) (v : Value) (D : List Int) (hD : D.length = 64) (hb : ∀ w', Keeps F w w' → BytesAt w' v D) (hs : st.W.length < 1000000) :
    Calls Try.prog 19 #[d, .int .i64 (n : Int), v] w fun e w' => e = .returned (.int .i64 0) ∧ Did d (writeE st n D) k F w w' := by
  obtain ⟨gd, gs, gn, wt, E, L, rfl, h⟩ := h
  exact write_lies h n hn v D hD hb (by rw [h.len]; exact hs)
theorem flush_at (h : DiskAt w d st k F) : Calls Try.prog 20 #[d] w fun e w' => e = .returned (.tuple #[]) ∧ Did d (flushE st) k F w w' := by
  obtain ⟨gd, gs, gn, wt, E, L, rfl, h⟩ := h
  exact flush_lies h
theorem crash_at (h : DiskAt w d st k F) (kv : Value) (K : List Bool) (hk : ∀ w', Keeps F w w' → BoolsAt w' kv K) (hK : K.length ≤ 1000000) :
    Calls Try.prog 15 #[d, kv] w fun e w' => e = .returned (.tuple #[]) ∧ Did d (crashE st K) k F w w' := by
  obtain ⟨gd, gs, gn, wt, E, L, rfl, h⟩ := h
  exact crash_lies h kv K hk hK
theorem fuse_at (h : DiskAt w d st k F) (n : Int) (hn : n ≤ 1000000) (hn0 : 0 ≤ n) : Calls Try.prog 18 #[d, .int .i64 n] w fun e w' => e = .returned (.tuple #[]) ∧ Did d { st with fu := fuseE st.fu n } k F w w' := by
  obtain ⟨gd, gs, gn, wt, E, L, rfl, h⟩ := h
  exact (fuse_lies h n hn hn0).mono fun e w' ⟨he, h1, h2⟩ => ⟨he, F, ⟨gd, gs, gn, wt, E, L, rfl, h1⟩, fun _ hi => Or.inl hi, h2⟩
theorem size_at (h : DiskAt w d st k F) : Calls Try.prog 25 #[d] w fun e w' => e = .returned (.int .i64 (k : Int)) ∧ w = w' := by
  obtain ⟨gd, gs, gn, wt, E, L, rfl, h⟩ := h
  exact size_lies h
theorem waiting_at (h : DiskAt w d st k F) : Calls Try.prog 14 #[d] w fun e w' => e = .returned (.int .i64 (st.W.length : Int)) ∧ w = w' := by
  obtain ⟨gd, gs, gn, wt, E, L, rfl, h⟩ := h
  exact waiting_lies h
theorem dead_at (h : DiskAt w d st k F) : Calls Try.prog 21 #[d] w fun e w' => e = .returned (.bool (st.fu == 0)) ∧ w = w' := by
  obtain ⟨gd, gs, gn, wt, E, L, rfl, h⟩ := h
  exact dead_lies h
theorem image_at (h : DiskAt w d st k F) : Calls Try.prog 16 #[d] w (CloneRes st.S w) := by
  obtain ⟨gd, gs, gn, wt, E, L, rfl, h⟩ := h
  exact image_lies h
theorem read_at (h : DiskAt w d st k F) (n : Nat) (hn : n < k) : Calls Try.prog 24 #[d, .int .i64 (n : Int)] w (ReadRes (sec st.N n) w) := by
  obtain ⟨gd, gs, gn, wt, E, L, rfl, h⟩ := h
  exact read_lies h n hn
theorem at_at (h : DiskAt w d st k F) (n : Nat) (hn : n < k) : Calls Try.prog 13 #[d, .int .i64 (n : Int)] w (CloneRes (sec st.N n) w) := by
  obtain ⟨gd, gs, gn, wt, E, L, rfl, h⟩ := h
  exact at_lies h n hn
theorem DiskAt.ptr (h : DiskAt w d st k F) : ∃ a, d = .pointer (some a) := by
  obtain ⟨gd, gs, gn, wt, E, L, rfl, h⟩ := h
  exact ⟨_, rfl⟩
theorem DiskAt.lens (h : DiskAt w d st k F) : st.S.length = 64 * k ∧ st.N.length = 64 * k := by
  obtain ⟨gd, gs, gn, wt, E, L, rfl, h⟩ := h
  exact ⟨by rw [h.ls, h.hL], by rw [h.ln, h.hL]⟩
/-- Bytes in a new block stay while a disk that was there changes. -/
theorem NewBytes.keep {D : List Int} {v : Value} {w1 w2 : World} (h : NewBytes D w1 v w2) (hF : ∀ i, F i → i < w1.heap.size) : ∀ w', Keeps F w2 w' → BytesAt w' v D := fun w' hk => by
  obtain ⟨g, cap, cur, rfl, ⟨hg, _⟩, h1, h2, _⟩ := h
  exact bytes_of_row rfl ((hk.block g (heap_lt h1) (fun hc => by have := hF g hc; omega)).trans h1) h2
end

theorem DiskAt.drew {w : World} {d : Value} {st : Dk} {k : Nat} {F : Nat → Prop} (h : DiskAt w d st k F) : DiskAt w.drew d st k F := h.keep (G := fun _ => False) (Keeps.refl _ _).drew (fun _ _ h => h)
theorem Did.keeps {d : Value} {st : Dk} {k : Nat} {F : Nat → Prop} {w w' : World} (h : Did d st k F w w') : Keeps F w w' := by
  obtain ⟨_, _, _, h⟩ := h
  exact h
theorem Keeps.cell {F : Nat → Prop} {w w' : World} (h : Keeps F w w') {g i : Nat} (hg : g < w.heap.size) (hn : ¬ F g) : w'.cell? ⟨g, i, none⟩ = w.cell? ⟨g, i, none⟩ := World.cell?_of_block (h.block g hg hn)
/-- A disk of the call's own. -/
def OwnDisk (w : World) (d : Value) (st : Dk) (k : Nat) (w' : World) : Prop := ∃ F, DiskAt w' d st k F ∧ (∀ i, F i → w.heap.size ≤ i) ∧ Below w.heap.size w w'
theorem OwnDisk.did {w w1 w2 : World} {d : Value} {st' : Dk} {k : Nat} {F : Nat → Prop} (hF : ∀ i, F i → w.heap.size ≤ i) (hb : Below w.heap.size w w1) (h : Did d st' k F w1 w2) : OwnDisk w d st' k w2 := by
  obtain ⟨F', h1, h2, h3⟩ := h
  refine ⟨F', h1, fun i hi => ?_, hb.trans (h3.to_below hF hb.size)⟩
  rcases h2 i hi with h | h
  · exact hF i h
  · exact Nat.le_trans hb.size h
def SpunRes (l : List (Int × ByteArray)) (flush : Int) (w : World) (e : Ending) (w' : World) : Prop := ∃ a, e = .returned (.pointer (some a)) ∧ OwnDisk w (.pointer (some a)) (spunE l flush) 16 w'

set_option maxHeartbeats 4000000 in
theorem spun_any (v : Value) (l : List (Int × ByteArray)) (flush : Int) (w : World) (h : PutsAt w v l) (hl : l.length ≤ 1000) :
    Calls Try.prog 12 #[v, .int .i64 flush] w (SpunRes l flush w) := by
  obtain ⟨N, HN⟩ : ∃ N, Hid (N = l.length) := ⟨_, rfl⟩
  obtain ⟨p, cp, hv, hp⟩ := puts_open h N HN.out
  rw [← HN.out] at hl
  subst hv
  have HP := Lib.hid hp
  clear hp h
  go_enter Try.func12, Try.ntmps12
  go_wp2_with fail
  refine (new_any 16 16 rfl (by omega) (by omega) _).mono ?_
  rintro e w1 ⟨d, F0, rfl, hd, hF0, hb0, _⟩
  obtain ⟨a, rfl⟩ := hd.ptr
  have HD : Hid (OwnDisk w (.pointer (some a)) (spunK l flush 0) 16 w1) := ⟨F0, hd, hF0, hb0⟩
  clear hd hF0 hb0
  go_wp2
  go_loopw [21] (fun i wr => ∃ k : Nat, k ≤ N ∧ i = .int .i64 k ∧ Hid (OwnDisk w (.pointer (some a)) (spunK l flush k) 16 wr)) (fun i _ => N - (intOf i).toNat)
  case atStart => exact ⟨0, Nat.zero_le _, rfl, HD⟩
  case round =>
    obtain ⟨k, hk, rfl, HK⟩ := hrel
    by_cases hlt : k < N
    · obtain ⟨g, o, rfl, hg, hc⟩ := HP.out (by omega)
      have hkl : k < l.length := by rw [← HN.out]; exact hlt
      have hck := hc k hkl
      obtain ⟨x, hx⟩ : ∃ x, Hid (x = l[k].1) := ⟨l[k].1, rfl⟩
      obtain ⟨s, hs⟩ : ∃ s, Hid (s = l[k].2) := ⟨l[k].2, rfl⟩
      rw [← hx.out, ← hs.out] at hck
      obtain ⟨F, hD, hF, hB⟩ := HK.out
      have c1 := (hB.cell (p := ⟨g, o + k * 2, none⟩) hg).trans hck.1
      have c2 := (hB.cell (p := ⟨g, o + (k * 2 + 1), none⟩) hg).trans hck.2
      rw [← Nat.add_assoc] at c2
      have hgl : g < wr.heap.size := Nat.lt_of_lt_of_le hg hB.size
      have hgn : ¬ g = wr.heap.size := by omega
      have HX : Hid (spunK l flush (k + 1) = putOne (if (k : Int) = flush then flushE (spunK l flush k) else spunK l flush k) (x, s)) := by
        show _ = _
        rw [spunK, List.getElem?_eq_getElem hkl, hx.out, hs.out]
      have HC := Lib.hid hc
      clear hc hck
      have hlt2 : (k : Int) < (N : Int) := by omega
      have hWk := spunK_W l flush k
      have HWK := Lib.hid hWk
      clear hWk
      have hla := hD.below ((Below.refl _ wr).alloc (Nat.le_refl _) (.cells #[.int .i64 x, .string s] 29))
      have hba : Below w.heap.size w (wr.alloc (.cells #[.int .i64 x, .string s] 29)) := hB.alloc hB.size _
      have k1 : (wr.alloc (.cells #[.int .i64 x, .string s] 29)).cell? ⟨wr.heap.size, 0, none⟩ = some (.int .i64 x) := cell_of_row _ _ _ _ _ _ (heap_alloc_new wr _)
      have k2 : (wr.alloc (.cells #[.int .i64 x, .string s] 29)).cell? ⟨wr.heap.size, 1, none⟩ = some (.string s) := cell_of_row _ _ _ _ _ _ (heap_alloc_new wr _)
      have hz : wr.heap.size < (wr.alloc (.cells #[.int .i64 x, .string s] 29)).heap.size := by simp
      have hnb : ∀ i, F i → i ≠ wr.heap.size := fun i hi => by have := hD.fin i hi; omega
      by_cases hf : (k : Int) = flush
      · have hf2 : ((k : Int) == flush) = true := by simpa using hf
        have HF := Lib.hid hf
        clear hf
        have HLA := Lib.hid hla
        have HBA := Lib.hid hba
        have HNB := Lib.hid hnb
        have HF' := Lib.hid hF
        have HK1 := Lib.hid k1
        have HK2 := Lib.hid k2
        clear hla hba hnb hD hF hB k1 k2 HK
        go_wp2_with fail
        refine (flush_at HLA.out).mono ?_
        rintro e wq ⟨rfl, Fq, hq, hFq, hkq⟩
        have hFq2 : ∀ i, Fq i → w.heap.size ≤ i ∧ i ≠ wr.heap.size := fun i hi => by
          rcases hFq i hi with h | h
          · exact ⟨HF'.out i h, HNB.out i h⟩
          · exact ⟨by have := HBA.out.size; omega, by omega⟩
        have HBQ : Hid (Below w.heap.size w wq) := HBA.out.trans (hkq.to_below HF'.out HBA.out.size)
        have k1 := (hkq.cell (i := 0) hz (fun h => HNB.out _ h rfl)).trans HK1.out
        have k2 := (hkq.cell (i := 1) hz (fun h => HNB.out _ h rfl)).trans HK2.out
        have hzq : wr.heap.size < wq.heap.size := Nat.lt_of_lt_of_le hz hkq.size
        have hWq : (flushE (spunK l flush k)).W.length < 1000000 := by have := flushE_W (spunK l flush k); have := HWK.out; omega
        have HST : Hid (spunK l flush (k + 1) = putOne (flushE (spunK l flush k)) (x, s)) := by rw [HX.out, if_pos HF.out]; exact rfl
        generalize flushE (spunK l flush k) = stq at hq hWq HST
        have HQ := Lib.hid hq
        have HFQ := Lib.hid hFq2
        have HKQ1 := Lib.hid k1
        have HKQ2 := Lib.hid k2
        have HFIN : Hid (∀ i, Fq i → i < wq.drew.heap.size) := hq.fin
        clear hq hFq2
        go_wp2_with fail
        go_region_held3 (fun w' => w'.cell? ⟨wr.heap.size, 0, none⟩ = some (.int .i64 x) ∧ w'.cell? ⟨wr.heap.size, 1, none⟩ = some (.string s))
          (first
            | (go_keep; done)
            | exact And.intro m1 m2
            | exact And.intro n1 n2)
          (first
            | (go_at_call 10; refine (pickN _ _ _ (by omega) (by omega)).mono ?_; rintro e w' ⟨rfl, rfl⟩)
            | (go_at_call 11; refine (sector_any s wq.drew).mono ?_; rintro e w2 ⟨v2, rfl, hv2⟩; have m1 : w2.cell? ⟨wr.heap.size, 0, none⟩ = some (.int .i64 x) := (hv2.below.cell (p := ⟨wr.heap.size, 0, none⟩) hzq).trans HKQ1.out; have m2 : w2.cell? ⟨wr.heap.size, 1, none⟩ = some (.string s) := (hv2.below.cell (p := ⟨wr.heap.size, 1, none⟩) hzq).trans HKQ2.out; have HV2 := Lib.hid hv2; clear hv2)
            | (go_at_call 19; refine (write_at (HQ.out.drew.below HV2.out.below) (pkN x 16) (pkN_lt x 16 (by omega) (by omega)) _ (secS s) (secS_len s) (HV2.out.keep HFIN.out) hWq).mono ?_; rintro e w3 ⟨rfl, hdid⟩; have n1 : w3.cell? ⟨wr.heap.size, 0, none⟩ = some (.int .i64 x) := (hdid.keeps.cell (Nat.lt_of_lt_of_le hzq HV2.out.below.size) (fun h => (HFQ.out _ h).2 rfl)).trans m1; have n2 : w3.cell? ⟨wr.heap.size, 1, none⟩ = some (.string s) := (hdid.keeps.cell (Nat.lt_of_lt_of_le hzq HV2.out.below.size) (fun h => (HFQ.out _ h).2 rfl)).trans m2; have HDID := Lib.hid hdid; clear hdid))
        all_goals
          have HO : Hid (OwnDisk w (.pointer (some a)) (spunK l flush (k + 1)) 16 w3) := by
            rw [HST.out]
            exact OwnDisk.did (fun i hi => (HFQ.out i hi).1) (HBQ.out.drew.trans (HV2.out.below.mono HBQ.out.size)) HDID.out
          clear HDID
          go_wp2
          go_roundw
          case rel => exact ⟨k + 1, by omega, by go_num, HO⟩
          case measure => simp [intOf]; omega
      · have hf2 : ((k : Int) == flush) = false := by simpa using hf
        have HF := Lib.hid hf
        clear hf
        have hFq2 : ∀ i, F i → w.heap.size ≤ i ∧ i ≠ wr.heap.size := fun i hi => ⟨hF i hi, hnb i hi⟩
        have HBQ := Lib.hid hba
        have hq := hla
        have hzq := hz
        have hWq : (spunK l flush k).W.length < 1000000 := by have := HWK.out; omega
        have HST : Hid (spunK l flush (k + 1) = putOne (spunK l flush k) (x, s)) := by rw [HX.out, if_neg HF.out]; exact rfl
        clear hla hba hnb hD hF hB HK
        generalize spunK l flush k = stq at hq hWq HST
        obtain ⟨Fq, hFe⟩ : ∃ Fq, Fq = F := ⟨_, rfl⟩
        rw [← hFe] at hq hFq2
        clear hFe
        go_wp2_with fail
        generalize wr.alloc (.cells #[.int .i64 x, .string s] 29) = wq at *
        have HQ := Lib.hid hq
        have HFQ := Lib.hid hFq2
        have HKQ1 := Lib.hid k1
        have HKQ2 := Lib.hid k2
        have HFIN : Hid (∀ i, Fq i → i < wq.drew.heap.size) := hq.fin
        clear hq hFq2
        go_wp2_with fail
        go_region_held3 (fun w' => w'.cell? ⟨wr.heap.size, 0, none⟩ = some (.int .i64 x) ∧ w'.cell? ⟨wr.heap.size, 1, none⟩ = some (.string s))
          (first
            | (go_keep; done)
            | exact And.intro m1 m2
            | exact And.intro n1 n2)
          (first
            | (go_at_call 10; refine (pickN _ _ _ (by omega) (by omega)).mono ?_; rintro e w' ⟨rfl, rfl⟩)
            | (go_at_call 11; refine (sector_any s wq.drew).mono ?_; rintro e w2 ⟨v2, rfl, hv2⟩; have m1 : w2.cell? ⟨wr.heap.size, 0, none⟩ = some (.int .i64 x) := (hv2.below.cell (p := ⟨wr.heap.size, 0, none⟩) hzq).trans HKQ1.out; have m2 : w2.cell? ⟨wr.heap.size, 1, none⟩ = some (.string s) := (hv2.below.cell (p := ⟨wr.heap.size, 1, none⟩) hzq).trans HKQ2.out; have HV2 := Lib.hid hv2; clear hv2)
            | (go_at_call 19; refine (write_at (HQ.out.drew.below HV2.out.below) (pkN x 16) (pkN_lt x 16 (by omega) (by omega)) _ (secS s) (secS_len s) (HV2.out.keep HFIN.out) hWq).mono ?_; rintro e w3 ⟨rfl, hdid⟩; have n1 : w3.cell? ⟨wr.heap.size, 0, none⟩ = some (.int .i64 x) := (hdid.keeps.cell (Nat.lt_of_lt_of_le hzq HV2.out.below.size) (fun h => (HFQ.out _ h).2 rfl)).trans m1; have n2 : w3.cell? ⟨wr.heap.size, 1, none⟩ = some (.string s) := (hdid.keeps.cell (Nat.lt_of_lt_of_le hzq HV2.out.below.size) (fun h => (HFQ.out _ h).2 rfl)).trans m2; have HDID := Lib.hid hdid; clear hdid))
        all_goals
          have HO : Hid (OwnDisk w (.pointer (some a)) (spunK l flush (k + 1)) 16 w3) := by
            rw [HST.out]
            exact OwnDisk.did (fun i hi => (HFQ.out i hi).1) (HBQ.out.drew.trans (HV2.out.below.mono HBQ.out.size)) HDID.out
          clear HDID
          go_wp2
          go_roundw
          case rel => exact ⟨k + 1, by omega, by go_num, HO⟩
          case measure => simp [intOf]; omega
    · have HE : Hid (spunE l flush = if (l.length : Int) ≤ flush then flushE (spunK l flush N) else spunK l flush N) := by show _ = _; unfold spunE; rw [← HN.out]
      by_cases hf : (N : Int) ≤ flush
      · have HE2 : Hid (spunE l flush = flushE (spunK l flush k)) := by show _ = _; rw [HE.out, ← HN.out, if_pos hf, show k = N by omega]
        go_wp2_with fail
        obtain ⟨F, hD, hF, hB⟩ := HK.out
        refine (flush_at hD).mono ?_
        rintro e wq ⟨rfl, hdid⟩
        have HO : Hid (OwnDisk w (.pointer (some a)) (spunE l flush) 16 wq) := by rw [HE2.out]; exact OwnDisk.did hF hB hdid
        clear hdid hD hF hB
        go_wp2
        go_ret
        exact ⟨a, rfl, HO.out⟩
      · have HE2 : Hid (spunE l flush = spunK l flush k) := by show _ = _; rw [HE.out, ← HN.out, if_neg hf, show k = N by omega]
        go_wp2
        go_ret
        exact ⟨a, rfl, by rw [HE2.out]; exact HK.out⟩

end Go.Proofs.Ytappfgjomndlmaa
