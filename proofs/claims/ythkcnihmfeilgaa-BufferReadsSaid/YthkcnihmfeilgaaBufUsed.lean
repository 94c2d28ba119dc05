/- used: a cache behind uses. -/
import Derived.Test.YthkcnihmfeilgaaBufDirty
import Derived.Test.YthkcnihmfeilgaaBufSome
namespace Go.Proofs.Ythkcnihmfeilgaa
open Go.RowKit

def stepU (slots : Nat) (S : List Ab × Dk) (x : Int × ByteArray × Bool) : List Ab × Dk := useA slots S.1 S.2 (pkN x.1 16, if x.2.2 then (secS x.2.1, true) else seeA S.1 S.2 (pkN x.1 16))
def foldU (slots : Nat) (l : List (Int × ByteArray × Bool)) : List Ab × Dk := l.foldl (stepU slots) ([], freshE 16)
theorem useA_W (slots : Nat) (M : List Ab) (st : Dk) (s : Ab) : (useA slots M st s).2.W.length ≤ st.W.length + 1 := by
  show (roomA slots (outA M s.1) st).2.W.length ≤ _
  unfold roomA
  split
  · split
    · rename_i x _
      cases x.2.2
      · simp
      · exact writeE_W _ _ _
    · simp
  · simp
theorem foldU_snoc (slots : Nat) (l : List (Int × ByteArray × Bool)) (x : Int × ByteArray × Bool) : foldU slots (l ++ [x]) = stepU slots (foldU slots l) x := by
  unfold foldU; rw [List.foldl_append]; rfl
theorem foldU_W (slots : Nat) (l : List (Int × ByteArray × Bool)) : ∀ k, (foldU slots (l.take k)).2.W.length ≤ k
  | 0 => by rw [List.take_zero]; exact Nat.le_refl _
  | k + 1 => by
    by_cases hk : k < l.length
    · rw [← List.take_append_getElem hk, foldU_snoc]
      have h1 := foldU_W slots l k
      have h2 := useA_W slots (foldU slots (l.take k)).1 (foldU slots (l.take k)).2 (pkN l[k].1 16, if l[k].2.2 then (secS l[k].2.1, true) else seeA (foldU slots (l.take k)).1 (foldU slots (l.take k)).2 (pkN l[k].1 16))
      exact Nat.le_trans h2 (by omega)
    · have h1 := foldU_W slots l k
      rw [List.take_of_length_le (by omega)] at h1 ⊢
      omega

/-- A cache, and its disk, made since w. -/
def OwnC (w : World) (c d : Value) (slots : Nat) (S : List Ab × Dk) (w' : World) : Prop :=
  ∃ A F, CacheAt w' c d slots S.1 S.2 16 A F ∧ (∀ i, A i → w.heap.size ≤ i) ∧ (∀ i, F i → w.heap.size ≤ i) ∧ Below w.heap.size w w'
theorem CacheAt.below {w w' : World} {c d : Value} {slots : Nat} {M : List Ab} {st : Dk} {k : Nat} {A F : Nat → Prop} (h : CacheAt w c d slots M st k A F) (hb : Below w.heap.size w w') : CacheAt w' c d slots M st k A F := by
  obtain ⟨E, he, h⟩ := h
  exact ⟨E, he, h.below hb⟩
theorem CacheAt.fin {w : World} {c d : Value} {slots : Nat} {M : List Ab} {st : Dk} {k : Nat} {A F : Nat → Prop} (h : CacheAt w c d slots M st k A F) : (∀ i, A i → i < w.heap.size) ∧ ∀ i, F i → i < w.heap.size := by
  obtain ⟨E, he, h⟩ := h
  exact h.fin
theorem OwnC.below {w w1 w2 : World} {c d : Value} {slots : Nat} {S : List Ab × Dk} (h : OwnC w c d slots S w1) (hb : Below w1.heap.size w1 w2) : OwnC w c d slots S w2 := by
  obtain ⟨A, F, h1, h2, h3, h4⟩ := h
  exact ⟨A, F, h1.below hb, h2, h3, Below.step h4 hb⟩
theorem Keeps.own {A F : Nat → Prop} {w w1 w2 : World} (h : Keeps (fun i => A i ∨ F i) w1 w2) (hA : ∀ i, A i → w.heap.size ≤ i) (hF : ∀ i, F i → w.heap.size ≤ i) (hb : Below w.heap.size w w1) : Below w.heap.size w w2 :=
  hb.trans (h.to_below (fun i hi => hi.elim (hA i) (hF i)) hb.size)
theorem OwnC.did {w w1 w2 : World} {c d : Value} {slots : Nat} {M : List Ab} {st : Dk} {A F : Nat → Prop} (hA : ∀ i, A i → w.heap.size ≤ i) (hF : ∀ i, F i → w.heap.size ≤ i) (hb : Below w.heap.size w w1) (h : CacheDid c d slots M st 16 A F w1 w2) : OwnC w c d slots (M, st) w2 := by
  obtain ⟨E, he, A', F', h1, h2, h3, h4⟩ := h
  have hz := hb.size
  exact ⟨A', F', ⟨E, he, h1⟩, fun i hi => (h2 i hi).elim (hA i) (fun h => Nat.le_trans hz h), fun i hi => (h3 i hi).elim (hF i) (fun h => Nat.le_trans hz h), h4.own hA hF hb⟩
theorem OwnC.got {w w1 w2 : World} {c d : Value} {slots n : Nat} {M : List Ab} {st : Dk} {A F : Nat → Prop} {e : Ending} (hA : ∀ i, A i → w.heap.size ≤ i) (hF : ∀ i, F i → w.heap.size ≤ i) (hb : Below w.heap.size w w1) (h : GetRes c d slots M st 16 n A F w1 e w2) : OwnC w c d slots (useA slots M st (n, seeA M st n)) w2 := by
  obtain ⟨v, A', F', _, h1, h2, h3, h4, _⟩ := h
  have hz := hb.size
  exact ⟨A', F', h1, fun i hi => (h2 i hi).elim (hA i) (fun h => Nat.le_trans hz h), fun i hi => (h3 i hi).elim (hF i) (fun h => Nat.le_trans hz h), h4.own hA hF hb⟩

def UsedRes (slots : Nat) (l : List (Int × ByteArray × Bool)) (w : World) (e : Ending) (w' : World) : Prop :=
  ∃ gc a, e = .returned (.tuple #[.pointer (some ⟨gc, 0, none⟩), .pointer (some a)]) ∧ OwnC w (.pointer (some ⟨gc, 0, none⟩)) (.pointer (some a)) slots (foldU slots l) w'

set_option maxRecDepth 100000 in
set_option maxHeartbeats 4000000 in
theorem used_any (v : Value) (l : List (Int × ByteArray × Bool)) (slots : Nat) (xs : Int) (hxs : xs = (slots : Int)) (h0 : 1 ≤ slots) (h32 : slots ≤ 32) (w : World) (h : UsesAt w v l) (hl : l.length ≤ 1000) :
    Calls Try.prog 16 #[.int .i64 xs, v] w (UsedRes slots l w) := by
  obtain ⟨N, HN⟩ : ∃ N, Hid (N = l.length) := ⟨_, rfl⟩
  obtain ⟨p, cp, hv, hp⟩ := uses_open h N HN.out
  rw [← HN.out] at hl
  subst hv hxs
  have HP := Lib.hid hp
  clear hp h
  go_enter Try.func16, Try.ntmps16
  go_wp2_with fail
  refine (new_any 16 16 rfl (by omega) (by omega) _).mono ?_
  rintro e w1 ⟨d, F0, rfl, hd, hF0, hb0, _⟩
  obtain ⟨a, rfl⟩ := hd.ptr
  have HD := Lib.hid hd
  have HF0 := Lib.hid hF0
  have HB0 := Lib.hid hb0
  clear hd hF0 hb0
  go_wp2_with fail
  refine (bufnew_any HD.out slots slots rfl h0 h32).mono ?_
  rintro e w2 ⟨rfl, hb2, hc2⟩
  have HO : Hid (OwnC w (.pointer (some ⟨w1.heap.size, 0, none⟩)) (.pointer (some a)) slots (foldU slots (l.take 0)) w2) := by
    have hz := HB0.out.size
    exact ⟨_, F0, hc2, fun i hi => by rw [hi]; exact hz, HF0.out, Below.step HB0.out hb2⟩
  clear hb2 hc2
  obtain ⟨gc, HGC⟩ : ∃ gc, Hid (w1.heap.size = gc) := ⟨_, rfl⟩
  rw [HGC.out] at HO ⊢
  go_wp2
  go_loopw [31] (fun i wr => ∃ k : Nat, k ≤ N ∧ i = .int .i64 k ∧ Hid (OwnC w (.pointer (some ⟨gc, 0, none⟩)) (.pointer (some a)) slots (foldU slots (l.take k)) wr)) (fun i _ => N - (intOf i).toNat)
  case atStart => exact ⟨0, Nat.zero_le _, rfl, HO⟩
  case round =>
    obtain ⟨k, hk, rfl, HK⟩ := hrel
    by_cases hlt : k < N
    · obtain ⟨g, o, rfl, hg, hc⟩ := HP.out (by omega)
      have hkl : k < l.length := by rw [← HN.out]; exact hlt
      have hck := hc k hkl
      obtain ⟨x, hx⟩ : ∃ x, Hid (x = l[k].1) := ⟨l[k].1, rfl⟩
      obtain ⟨s, hs⟩ : ∃ s, Hid (s = l[k].2.1) := ⟨l[k].2.1, rfl⟩
      obtain ⟨pb, hpb⟩ : ∃ s, Hid (s = l[k].2.2) := ⟨l[k].2.2, rfl⟩
      rw [← hx.out, ← hs.out, ← hpb.out] at hck
      obtain ⟨A, F, hC, hA, hF, hB⟩ := HK.out
      have c1 := (hB.cell (p := ⟨g, o + k * 3, none⟩) hg).trans hck.1
      have c2 := (hB.cell (p := ⟨g, o + (k * 3 + 1), none⟩) hg).trans hck.2.1
      have c3 := (hB.cell (p := ⟨g, o + (k * 3 + 2), none⟩) hg).trans hck.2.2
      rw [← Nat.add_assoc] at c2 c3
      have hgl : g < wr.heap.size := Nat.lt_of_lt_of_le hg hB.size
      have hgn : ¬ g = wr.heap.size := by omega
      have HS1 : Hid (foldU slots (l.take (k + 1)) = stepU slots (foldU slots (l.take k)) (x, s, pb)) := by
        show _ = _
        rw [← List.take_append_getElem hkl, foldU_snoc, hx.out, hs.out, hpb.out]
      have hWq : (foldU slots (l.take k)).2.W.length < 1000000 := by have := foldU_W slots l k; omega
      generalize foldU slots (l.take k) = S at *
      have HC := Lib.hid hc
      have HA := Lib.hid hA
      have HF := Lib.hid hF
      have HCA := Lib.hid (hC.below ((Below.refl _ wr).alloc (Nat.le_refl _) (.cells #[.int .i64 x, .string s, .bool pb] 29)))
      have hba : Below w.heap.size w (wr.alloc (.cells #[.int .i64 x, .string s, .bool pb] 29)) := hB.alloc hB.size _
      have HBA := Lib.hid hba
      have HNB : Hid (∀ i, A i ∨ F i → i ≠ wr.heap.size) := fun i hi => by
        have := hC.fin
        rcases hi with h | h
        · have := this.1 i h; omega
        · have := this.2 i h; omega
      have k1 : (wr.alloc (.cells #[.int .i64 x, .string s, .bool pb] 29)).cell? ⟨wr.heap.size, 0, none⟩ = some (.int .i64 x) := cell_of_row _ _ _ _ _ _ (heap_alloc_new wr _)
      have k2 : (wr.alloc (.cells #[.int .i64 x, .string s, .bool pb] 29)).cell? ⟨wr.heap.size, 1, none⟩ = some (.string s) := cell_of_row _ _ _ _ _ _ (heap_alloc_new wr _)
      have k3 : (wr.alloc (.cells #[.int .i64 x, .string s, .bool pb] 29)).cell? ⟨wr.heap.size, 2, none⟩ = some (.bool pb) := cell_of_row _ _ _ _ _ _ (heap_alloc_new wr _)
      have hz : wr.heap.size < (wr.alloc (.cells #[.int .i64 x, .string s, .bool pb] 29)).heap.size := by simp
      have hlt2 : (k : Int) < (N : Int) := by omega
      clear hc hck hC hA hF hB HK hba
      cases pb with
      | true =>
        go_wp2_with fail
        generalize wr.alloc (.cells #[.int .i64 x, .string s, .bool true] 29) = wq at *
        have HKQ1 := Lib.hid k1
        have HKQ2 := Lib.hid k2
        go_wp2_with fail
        go_region_held3 (fun w' => w'.cell? ⟨wr.heap.size, 0, none⟩ = some (.int .i64 x) ∧ w'.cell? ⟨wr.heap.size, 1, none⟩ = some (.string s))
          (first
            | (go_keep; done)
            | exact And.intro m1 m2
            | exact And.intro n1 n2)
          (first
            | (go_at_call 14; refine (pickN _ _ _ (by omega) (by omega)).mono ?_; rintro e w' ⟨rfl, rfl⟩)
            | (go_at_call 15; refine (sector_any s wq.drew).mono ?_; rintro e w2 ⟨v2, rfl, hv2⟩; have m1 : w2.cell? ⟨wr.heap.size, 0, none⟩ = some (.int .i64 x) := (hv2.below.cell (p := ⟨wr.heap.size, 0, none⟩) hz).trans HKQ1.out; have m2 : w2.cell? ⟨wr.heap.size, 1, none⟩ = some (.string s) := (hv2.below.cell (p := ⟨wr.heap.size, 1, none⟩) hz).trans HKQ2.out; have HV2 := Lib.hid hv2; clear hv2)
            | (go_at_call 47; refine (put_any (HCA.out.below ((Below.refl _ _).drew.trans HV2.out.below)) (pkN x 16) (pkN_lt x 16 (by omega) (by omega)) _ (secS s) HV2.out.at (secS_len s) hWq).mono ?_; rintro e w3 ⟨rfl, hdid⟩; have hkp : Keeps (fun i => A i ∨ F i) w2 w3 := (match hdid with | ⟨_, _, _, _, _, _, _, h⟩ => h); have n1 : w3.cell? ⟨wr.heap.size, 0, none⟩ = some (.int .i64 x) := (hkp.cell (Nat.lt_of_lt_of_le hz HV2.out.below.size) (fun h => HNB.out _ h rfl)).trans m1; have n2 : w3.cell? ⟨wr.heap.size, 1, none⟩ = some (.string s) := (hkp.cell (Nat.lt_of_lt_of_le hz HV2.out.below.size) (fun h => HNB.out _ h rfl)).trans m2; have HDID := Lib.hid hdid; clear hdid hkp))
        all_goals
          have HO : Hid (OwnC w (.pointer (some ⟨gc, 0, none⟩)) (.pointer (some a)) slots (foldU slots (l.take (k + 1))) w3) := by
            show OwnC _ _ _ _ _ _
            rw [HS1.out]
            exact OwnC.did HA.out HF.out (HBA.out.drew.trans (HV2.out.below.mono HBA.out.size)) HDID.out
          clear HDID
          go_wp2
          go_roundw
          case rel => exact ⟨k + 1, by omega, by go_num, HO⟩
          case measure => simp [intOf]; omega
      | false =>
        go_wp2_with fail
        generalize wr.alloc (.cells #[.int .i64 x, .string s, .bool false] 29) = wq at *
        refine (pickN _ _ _ (by omega) (by omega)).mono ?_
        rintro e w' ⟨rfl, rfl⟩
        go_wp2_with fail
        refine (get_any HCA.out (pkN x 16) (pkN_lt x 16 (by omega) (by omega)) hWq).mono ?_
        rintro e w3 hget
        have HO : Hid (OwnC w (.pointer (some ⟨gc, 0, none⟩)) (.pointer (some a)) slots (foldU slots (l.take (k + 1))) w3) := by
          show OwnC _ _ _ _ _ _
          rw [HS1.out]
          exact OwnC.got HA.out HF.out HBA.out hget
        obtain ⟨v3, _, _, rfl, _⟩ := hget
        go_wp2
        go_roundw
        case rel => exact ⟨k + 1, by omega, by go_num, HO⟩
        case measure => simp [intOf]; omega
    · have hkn : k = N := by omega
      have HE : Hid (l.take k = l) := List.take_of_length_le (by rw [hkn, HN.out]; exact Nat.le_refl _)
      rw [HE.out] at HK
      go_wp2
      go_ret2
      exact ⟨gc, a, rfl, HK.out⟩

end Go.Proofs.Ythkcnihmfeilgaa
