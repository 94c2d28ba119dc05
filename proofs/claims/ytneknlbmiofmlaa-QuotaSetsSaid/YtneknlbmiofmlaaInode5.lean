/- What is packed is unpacked; the fact noted. -/
import Derived.Test.YtneknlbmiofmlaaInode4
namespace Go.Proofs.Ytneknlbmiofmlaa
open Go.RowKit

theorem goodN_pack {k m u g s l up : Int} {P : List Int} (hr : rightN k m u g s l up P = 0) : goodN (packN k m u g s l up P) ∧ (packN k m u g s l up P).getD 0 0 = k ∧ (packN k m u g s l up P).getD 1 0 + (packN k m u g s l up P).getD 2 0 * 256 = m ∧ (packN k m u g s l up P).getD 3 0 = u ∧ (packN k m u g s l up P).getD 4 0 = g ∧
    (packN k m u g s l up P).getD 5 0 + (packN k m u g s l up P).getD 6 0 * 256 = s ∧ (packN k m u g s l up P).getD 7 0 = l ∧ (packN k m u g s l up P).getD 8 0 = up ∧ ptsN (packN k m u g s l up P) = P := by
  have hlen := packN_len hr
  have key : (packN k m u g s l up P).getD 0 0 = k ∧ (packN k m u g s l up P).getD 1 0 + (packN k m u g s l up P).getD 2 0 * 256 = m ∧ (packN k m u g s l up P).getD 3 0 = u ∧ (packN k m u g s l up P).getD 4 0 = g ∧
      (packN k m u g s l up P).getD 5 0 + (packN k m u g s l up P).getD 6 0 * 256 = s ∧ (packN k m u g s l up P).getD 7 0 = l ∧ (packN k m u g s l up P).getD 8 0 = up ∧ goodB (midB (packN k m u g s l up P)) ∧ ptsN (packN k m u g s l up P) = P := by
    by_cases hk : k = 0
    · subst hk
      unfold rightN at hr
      rw [if_pos rfl] at hr
      by_cases hz : m = 0 ∧ u = 0 ∧ g = 0 ∧ s = 0 ∧ l = 0 ∧ up = 0 ∧ P.length = 0
      · obtain ⟨rfl, rfl, rfl, rfl, rfl, rfl, hP⟩ := hz
        obtain rfl : P = [] := List.length_eq_zero_iff.1 hP
        have e : packN 0 0 0 0 0 0 0 [] = List.replicate 32 0 := by unfold packN; rw [if_pos rfl]
        rw [e]
        have em : midB (List.replicate 32 0) = packL (ofE []) := rfl
        have hg := good_pack (P := []) rfl
        refine ⟨rfl, rfl, rfl, rfl, rfl, rfl, rfl, by rw [em]; exact hg.1, by unfold ptsN; rw [em, hg.2]⟩
      · rw [if_neg hz] at hr; cases hr
    · obtain ⟨hk0, hm0, hu0, hg0, hs0, hl0, hup0, hrE, hbl⟩ := rightN_ok hr hk
      have hpl := packOf_len hrE
      have e : packN k m u g s l up P = [k, m % 256, m / 256, u, g, s % 256, s / 256, l, up] ++ packL (ofE P) ++ List.replicate 7 0 := by unfold packN; rw [if_neg hk]
      have em : midB (packN k m u g s l up P) = packL (ofE P) := by
        rw [e]
        unfold midB
        rw [List.append_assoc, List.drop_append_of_le_length (by simp), List.drop_of_length_le (by simp), List.nil_append, List.take_append_of_le_length (by omega), List.take_of_length_le (by omega)]
      have hg := good_pack hrE
      have g0 : (packN k m u g s l up P).getD 0 0 = k := by rw [e]; rfl
      have g1 : (packN k m u g s l up P).getD 1 0 = m % 256 := by rw [e]; rfl
      have g2 : (packN k m u g s l up P).getD 2 0 = m / 256 := by rw [e]; rfl
      have g3 : (packN k m u g s l up P).getD 3 0 = u := by rw [e]; rfl
      have g4 : (packN k m u g s l up P).getD 4 0 = g := by rw [e]; rfl
      have g5 : (packN k m u g s l up P).getD 5 0 = s % 256 := by rw [e]; rfl
      have g6 : (packN k m u g s l up P).getD 6 0 = s / 256 := by rw [e]; rfl
      have g7 : (packN k m u g s l up P).getD 7 0 = l := by rw [e]; rfl
      have g8 : (packN k m u g s l up P).getD 8 0 = up := by rw [e]; rfl
      refine ⟨g0, by rw [g1, g2]; omega, g3, g4, by rw [g5, g6]; omega, g7, g8, by rw [em]; exact hg.1, by unfold ptsN; rw [em, hg.2]⟩
  obtain ⟨e0, e1, e3, e4, e5, e7, e8, hgb, hp⟩ := key
  refine ⟨⟨hlen, hgb, ?_, ?_⟩, e0, e1, e3, e4, e5, e7, e8, hp⟩
  · rw [e0, e1, e3, e4, e5, e7, e8, hp]; exact hr
  · rw [e0, e1, e3, e4, e5, e7, e8, hp]
theorem packN_in {k m u g s l up : Int} {P : List Int} (hr : rightN k m u g s l up P = 0) : ∀ x, x ∈ packN k m u g s l up P → 0 ≤ x ∧ x ≤ 255 := by
  intro x hx
  unfold packN at hx
  by_cases hk : k = 0
  · rw [if_pos hk] at hx
    have := List.eq_of_mem_replicate hx
    omega
  · obtain ⟨hk0, hm0, hu0, hg0, hs0, hl0, hup0, hrE, hbl⟩ := rightN_ok hr hk
    rw [if_neg hk] at hx
    rcases List.mem_append.1 hx with hx | hx
    · rcases List.mem_append.1 hx with hx | hx
      · simp only [List.mem_cons, List.not_mem_nil, or_false] at hx
        omega
      · exact packOf_in hrE x hx
    · have := List.eq_of_mem_replicate hx
      omega

theorem unpackN_any (v : Value) (bs : List Int) (w : World) (h : BytesAt w v bs) (hl : bs.length ≤ 1000000) (hx : ∀ x, x ∈ bs → 0 ≤ x ∧ x ≤ 255) (hcap : ∃ p c, v = .slice p bs.length c ∧ bs.length ≤ c) :
    Calls Try.prog 27 #[v] w (UnpNRes bs w) := by
  by_cases hn : bs.length = 32
  · have hb := h
    obtain ⟨_, ⟨h0, _⟩ | ⟨gb, ob, cap, rfl, hc⟩⟩ := h
    · omega
    obtain ⟨p, c, hv, hcp⟩ := hcap
    injection hv with _ _ hv3
    subst hv3
    rw [hn] at hcp
    have cell : ∀ j, j < 32 → w.cell? ⟨gb, ob + j, none⟩ = some (.int .u8 (bs.getD j 0)) := fun j hj => by
      have := hc j _ (u8s_get bs j (by omega))
      rw [this, List.getD_eq_getElem?_getD, List.getElem?_eq_getElem (by omega)]; rfl
    have bd : ∀ j, j < 32 → 0 ≤ bs.getD j 0 ∧ bs.getD j 0 ≤ 255 := fun j hj => by
      rw [List.getD_eq_getElem?_getD, List.getElem?_eq_getElem (by omega)]
      exact hx _ (List.getElem_mem _)
    have hmid : ∀ c, BytesAt w (.slice (some ⟨gb, ob + 9, none⟩) 16 c) (midB bs) := fun c => by
      have hml : (midB bs).length = 16 := by unfold midB; rw [List.length_take, List.length_drop]; omega
      refine ⟨by rw [u8s_len, Nat.mul_one], Or.inr ⟨gb, ob + 9, c, by rw [hml], fun j x hxj => ?_⟩⟩
      have hj := (List.getElem?_eq_some_iff.1 hxj).1
      rw [u8s_len, hml] at hj
      rw [Nat.add_assoc]
      refine hc (9 + j) x ?_
      unfold midB at hxj
      rw [u8s_take, u8s_drop, List.getElem?_take, if_pos hj, List.getElem?_drop] at hxj
      exact hxj
    rw [hn] at hb ⊢
    refine (unpackN_long bs gb ob cap _ _ _ _ _ _ _ _ _ (bs.getD 1 0 + bs.getD 2 0 * 256) (bs.getD 5 0 + bs.getD 6 0 * 256) w hcp hb hmid hn hx rfl rfl ⟨fun h => ⟨h.2.1, h.2.2.1, h.2.2.2⟩, fun h => ⟨hn, h.1, h.2.1, h.2.2⟩⟩ (cell 0 (by omega)) (cell 1 (by omega)) (cell 2 (by omega)) (cell 3 (by omega)) (cell 4 (by omega)) (cell 5 (by omega)) (cell 6 (by omega)) (cell 7 (by omega)) (cell 8 (by omega))
      (bd 0 (by omega)).1 (bd 0 (by omega)).2 (bd 1 (by omega)).1 (bd 1 (by omega)).2 (bd 2 (by omega)).1 (bd 2 (by omega)).2 (bd 3 (by omega)).1 (bd 3 (by omega)).2 (bd 4 (by omega)).1 (bd 4 (by omega)).2 (bd 5 (by omega)).1 (bd 5 (by omega)).2 (bd 6 (by omega)).1 (bd 6 (by omega)).2 (bd 7 (by omega)).1 (bd 7 (by omega)).2 (bd 8 (by omega)).1 (bd 8 (by omega)).2).mono fun e w' hr => ?_
    exact hr
  · exact unpackN_short v bs w h hn hl

def PackedRes (k m u g s l up : Int) (P : List Int) (w : World) (e : Ending) (w' : World) : Prop :=
  ∃ r, e = .returned (.tuple #[.agg #[.int .i64 k, .int .i64 m, .int .i64 u, .int .i64 g, .int .i64 s, .int .i64 l, .int .i64 up, r], .int .i64 0]) ∧ IntsAt w' r P ∧ Below w.heap.size w w'
theorem unpackN_packed (k m u g s l up : Int) (P : List Int) (hr : rightN k m u g s l up P = 0) (v : Value) (w : World) (h : BytesAt w v (packN k m u g s l up P)) (hcap : ∃ p c, v = .slice p (packN k m u g s l up P).length c ∧ (packN k m u g s l up P).length ≤ c) :
    Calls Try.prog 27 #[v] w (PackedRes k m u g s l up P w) := by
  refine (unpackN_any v _ w h (by rw [packN_len hr]; omega) (packN_in hr) hcap).mono fun e w' hu => ?_
  obtain ⟨hg, e0, e1, e3, e4, e5, e7, e8, hp⟩ := goodN_pack hr
  rcases hu with ⟨_, r, he, hI, hb⟩ | ⟨hng, _⟩
  · rw [e0, e1, e3, e4, e5, e7, e8] at he
    rw [hp] at hI
    exact ⟨r, he, hI, hb⟩
  · exact absurd hg hng

-- NOTED
theorem ints_shape {w : World} {v : Value} {P : List Int} (h : IntsAt w v P) (n : Nat) (hn : n = P.length) : ∃ p c, v = .slice p n c := by
  subst hn
  obtain ⟨_, ⟨h0, a0, c0, rfl⟩ | ⟨g, o, cap, rfl, hc⟩⟩ := h
  · exact ⟨a0, c0, by rw [h0]⟩
  · exact ⟨_, cap, rfl⟩
set_option maxRecDepth 100000 in
set_option maxHeartbeats 4000000 in
theorem noted_true (w : World) :
    Calls Try.prog 24 #[] w fun e w' => e = .returned (.bool true) ∧ Below w.heap.size w w' := by
  have hr : rightN 1 420 3 4 65 1 0 [40, 0] = 0 := by decide
  have HR := Lib.hid hr
  have h0 : IntsAt ((w.alloc (.cells (ints [40, 0]).toArray 3)).alloc (.cells #[.int .i64 1, .int .i64 420, .int .i64 3, .int .i64 4, .int .i64 65, .int .i64 1, .int .i64 0, .slice (some ⟨w.heap.size, 0, none⟩) 2 2] 46)) (.slice (some ⟨w.heap.size, 0, none⟩) 2 2) [40, 0] :=
    RowAt.below (ints_new w [40, 0] 3 2) ((Below.refl _ _).alloc (Nat.le_refl _) _)
  have H0 := Lib.hid h0
  clear hr h0
  go_enter Try.func24, Try.ntmps24
  go_wp2_with fail
  refine (packN_good 1 420 3 4 65 1 0 _ [40, 0] _ H0.out HR.out).mono ?_
  rintro e w2 ⟨gp, rfl, hgp, hhp, hb2⟩
  have e1 : (w.alloc (.cells (ints [40, 0]).toArray 3)).heap.size = w.heap.size + 1 := by simp
  have K2 : Hid (w2.heap[w.heap.size + 1]? = some (.cells #[.int .i64 1, .int .i64 420, .int .i64 3, .int .i64 4, .int .i64 65, .int .i64 1, .int .i64 0, .slice (some ⟨w.heap.size, 0, none⟩) 2 2] 46 (0, 0))) := by
    have := heap_below hb2 (heap_alloc_new (w.alloc (.cells (ints [40, 0]).toArray 3)) _)
    rw [e1] at this
    exact this
  have HI2 : Hid (IntsAt w2 (.slice (some ⟨w.heap.size, 0, none⟩) 2 2) [40, 0]) := RowAt.below H0.out hb2
  have HB2 : Hid (BytesAt w2 (.slice (some ⟨gp, 0, none⟩) 32 32) (packN 1 420 3 4 65 1 0 [40, 0])) := u8_block (packN_len HR.out) hhp
  have HH2 := Lib.hid hhp
  have hB2 : Below w.heap.size w w2 := Below.step (((Below.refl _ _).alloc (Nat.le_refl _) _).alloc (by simp) _) hb2
  clear hhp hb2 e1
  go_wp2_with fail
  refine (unpackN_packed 1 420 3 4 65 1 0 [40, 0] HR.out _ _ HB2.out ⟨_, 32, by rw [packN_len HR.out], by rw [packN_len HR.out]; omega⟩).mono ?_
  rintro e w3 ⟨r, rfl, hI3, hb3⟩
  obtain ⟨rp, rc, hre⟩ := ints_shape hI3 2 rfl
  subst hre
  have HI3 : Hid (IntsAt w3 (.slice rp 2 rc) [40, 0]) := hI3
  have HI3' : Hid (IntsAt w3 (.slice (some ⟨w.heap.size, 0, none⟩) 2 2) [40, 0]) := RowAt.below HI2.out hb3
  have K3 := Lib.hid (heap_below hb3 K2.out)
  have HH3 := Lib.hid (heap_below hb3 HH2.out)
  have hB3 := Below.step hB2 hb3
  clear hI3 hb3
  have hcv : (convert 37 9 (.slice (some ⟨gp, 0, none⟩) 10 32)).run Try.prog (w3.alloc (.cells #[.int .i64 1, .int .i64 420, .int .i64 3, .int .i64 4, .int .i64 65, .int .i64 1, .int .i64 0, .slice rp 2 rc] 46)) = .ok (.string ⟨#[1, 164, 1, 3, 4, 65, 0, 1, 0, 40]⟩) (w3.alloc (.cells #[.int .i64 1, .int .i64 420, .int .i64 3, .int .i64 4, .int .i64 65, .int .i64 1, .int .i64 0, .slice rp 2 rc] 46)) := by
    have hb := heap_alloc_keep HH3.out (.cells #[.int .i64 1, .int .i64 420, .int .i64 3, .int .i64 4, .int .i64 65, .int .i64 1, .int .i64 0, .slice rp 2 rc] 46)
    have := run_string_of (P := Try.prog) (w3.alloc (.cells #[.int .i64 1, .int .i64 420, .int .i64 3, .int .i64 4, .int .i64 65, .int .i64 1, .int .i64 0, .slice rp 2 rc] 46)) 37 9 5 gp 0 32 10 [1, 164, 1, 3, 4, 65, 0, 1, 0, 40] rfl (by kernel_rfl) (by kernel_rfl) (by kernel_rfl) (fun j v hv => by
      rw [Nat.zero_add, cell_of_row _ _ _ _ _ _ hb]
      have hj := (List.getElem?_eq_some_iff.1 hv).1
      simp only [List.length_map, List.length_cons, List.length_nil] at hj
      have e : (packN 1 420 3 4 65 1 0 [40, 0]).take 10 = [1, 164, 1, 3, 4, 65, 0, 1, 0, 40] := by decide
      rw [← e, List.map_take, List.getElem?_take, if_pos (by omega)] at hv
      unfold byts
      rw [List.getElem?_toArray]
      exact hv)
    exact this
  have K4 : Hid ((w3.alloc (.cells #[.int .i64 1, .int .i64 420, .int .i64 3, .int .i64 4, .int .i64 65, .int .i64 1, .int .i64 0, .slice rp 2 rc] 46)).heap[w.heap.size + 1]? = some (.cells #[.int .i64 1, .int .i64 420, .int .i64 3, .int .i64 4, .int .i64 65, .int .i64 1, .int .i64 0, .slice (some ⟨w.heap.size, 0, none⟩) 2 2] 46 (0, 0))) := heap_alloc_keep K3.out _
  have L4 : Hid ((w3.alloc (.cells #[.int .i64 1, .int .i64 420, .int .i64 3, .int .i64 4, .int .i64 65, .int .i64 1, .int .i64 0, .slice rp 2 rc] 46)).heap[w3.heap.size]? = some (.cells #[.int .i64 1, .int .i64 420, .int .i64 3, .int .i64 4, .int .i64 65, .int .i64 1, .int .i64 0, .slice rp 2 rc] 46 (0, 0))) := heap_alloc_new _ _
  have HI4 : Hid (IntsAt (w3.alloc (.cells #[.int .i64 1, .int .i64 420, .int .i64 3, .int .i64 4, .int .i64 65, .int .i64 1, .int .i64 0, .slice rp 2 rc] 46)) (.slice rp 2 rc) [40, 0]) := RowAt.below HI3.out ((Below.refl _ _).alloc (Nat.le_refl _) _)
  have HI4' : Hid (IntsAt (w3.alloc (.cells #[.int .i64 1, .int .i64 420, .int .i64 3, .int .i64 4, .int .i64 65, .int .i64 1, .int .i64 0, .slice rp 2 rc] 46)) (.slice (some ⟨w.heap.size, 0, none⟩) 2 2) [40, 0]) := RowAt.below HI3'.out ((Below.refl _ _).alloc (Nat.le_refl _) _)
  have hB4 : Below w.heap.size w (w3.alloc (.cells #[.int .i64 1, .int .i64 420, .int .i64 3, .int .i64 4, .int .i64 65, .int .i64 1, .int .i64 0, .slice rp 2 rc] 46)) := hB3.alloc hB3.size _
  obtain ⟨x0, x1, x2, x3, x4, x5, x6, x7⟩ := node_cells K4.out
  go_wp2_with fail
  generalize (w3.alloc (.cells #[.int .i64 1, .int .i64 420, .int .i64 3, .int .i64 4, .int .i64 65, .int .i64 1, .int .i64 0, .slice rp 2 rc] 46)) = w4 at *
  refine (alike_true 1 420 3 4 65 1 0 _ _ [40, 0] _ HI4.out HI4'.out (by simp)).mono ?_
  rintro e w5 ⟨rfl, hb5⟩
  have K5 := Lib.hid (heap_below hb5 K4.out)
  have HI5 : Hid (IntsAt w5 (.slice (some ⟨w.heap.size, 0, none⟩) 2 2) [40, 0]) := RowAt.below HI4'.out hb5
  have hB5 := Below.step hB4 hb5
  clear x0 x1 x2 x3 x4 x5 x6 x7 hcv hb5
  obtain ⟨x0, x1, x2, x3, x4, x5, x6, x7⟩ := node_cells K5.out
  go_wp2_with fail
  refine (used_any 1 420 3 4 65 1 0 _ [40, 0] _ HI5.out (by simp)).mono ?_
  rw [show usedE [40, 0] = 1 by decide]
  rintro e w6 ⟨rfl, hb6⟩
  have hB6 := Below.step hB5 hb6
  clear x0 x1 x2 x3 x4 x5 x6 x7 hb6
  go_wp2_with fail
  refine (blocks_any 65 _ (by omega) (by omega)).mono ?_
  rw [show blocksE 65 = 2 by decide]
  rintro e w' ⟨rfl, rfl⟩
  go_wp2
  go_ret
  exact ⟨rfl, hB6⟩

end Go.Proofs.Ytneknlbmiofmlaa
