/- DiskEach: for all writes, wherever the Flush is, whatever is kept and for every sector the statement returns true and leaves its arguments alone. No conditions. -/
import Derived.Test.YtappfgjomndlmaaDkEachF
namespace Go.Proofs.Ytappfgjomndlmaa
open Go.ChangeShapes Go.WideShapes Go.ChangeAt Go.RowKit

theorem strInfo : (Try.prog.info? 9).map (fun i => (i.zero, i.size, i.bytes)) = some (some (.string { data := #[] }), 1, 16) := by kernel_rfl
theorem strsT : Try.prog.underlying 45 = some (.slice 9) := by kernel_rfl
theorem strs_new (w : World) (B : ByteArray) (base : Nat) (hb : base ≤ w.heap.size) : (w.alloc (.cells #[.string B] 9)).ownsRow base 9 1 (.slice (some ⟨w.heap.size, 0, none⟩) 1 1) 1 (strs [B]) :=
  ⟨rfl, Or.inr ⟨w.heap.size, 1, _, rfl, hb, heap_alloc_new _ _, by omega, by unfold maxLen; omega, rfl, rfl⟩⟩
theorem owns_keeps {w w' : World} {F : Nat → Prop} {base : Nat} {e : TypeId} {v : Value} {n : Nat} {xs : List Value} (h : w.ownsRow base e 1 v n xs) (hF : ∀ i, F i → i < base) (hk : Keeps F w w') : w'.ownsRow base e 1 v n xs :=
  owns_keep h fun b hb => hk.block b (h.lt b hb).2 (fun hc => by have := hF b hc; have := (h.lt b hb).1; omega)
theorem bools_block {w : World} {g N : Nat} {K : List Bool} {t : TypeId} (hN : K.length = N) (h : w.heap[g]? = some (.cells (bools K).toArray t (0, 0))) : BoolsAt w (.slice (some ⟨g, 0, none⟩) N N) K := by
  refine ⟨by rw [bools_len, Nat.mul_one], Or.inr ⟨g, 0, N, by rw [hN], fun j x hx => ?_⟩⟩
  rw [Nat.zero_add, cell_of_row _ _ _ _ _ _ h]
  simpa using hx
theorem mayB_snoc (S : List Int) (n : Nat) (l : List (Int × ByteArray)) (x : Int × ByteArray) : mayB S n (l ++ [x]) = mayB S n l ++ (if pkN x.1 16 = n then [bytesS (secS x.2)] else []) := by
  unfold mayB
  rw [List.map_append, List.map_cons, List.map_nil, mayL_snoc, List.map_append]
  by_cases h : pkN x.1 16 = n
  · rw [if_pos h, if_pos (show (wOne x).1 = n from h)]; rfl
  · rw [if_neg h, if_neg (show ¬ (wOne x).1 = n from h)]; rfl

set_option maxRecDepth 100000 in
set_option maxHeartbeats 8000000 in
theorem diskEach_raw (v : Value) (l : List (Int × ByteArray)) (f0 : Int) (kv : Value) (K : List Bool) (n0 : Int) (w : World) (h : PutsAt w v l) (hl : l.length ≤ maxLen) (hs : ∀ x, x ∈ l → x.2.size ≤ maxLen) (hcap : ∃ p c, v = .slice p l.length c ∧ l.length ≤ c) (hkv : BoolsAt w kv K) (hK : K.length ≤ maxLen) :
    Calls Try.prog 7 #[v, .int .i64 f0, kv, .int .i64 n0] w fun e w' => e = .returned (.bool true) ∧ Below w.heap.size w w' := by
  have H := Lib.hid h
  have HS := Lib.hid hs
  have HLM := Lib.hid hl
  have HKV := Lib.hid hkv
  obtain ⟨M, HM⟩ : ∃ M, Hid (M = K.length) := ⟨_, rfl⟩
  obtain ⟨pk', cpk, hu⟩ : ∃ p cp, kv = .slice p M cp := by
    rw [HM.out]
    obtain ⟨_, ⟨h0, a0, c0, rfl⟩ | ⟨g, o, cap, rfl, hc⟩⟩ := hkv
    · exact ⟨a0, c0, by rw [h0]⟩
    · exact ⟨_, cap, rfl⟩
  subst hu
  unfold maxLen at hK
  rw [← HM.out] at hK
  obtain ⟨N, HN⟩ : ∃ N, Hid (N = l.length) := ⟨_, rfl⟩
  obtain ⟨p, cp, hv, hcp⟩ := hcap
  rw [← HN.out] at hv hcp
  subst hv
  clear h hs hl hkv
  obtain ⟨i0, hi, hz0, hz1, hz2⟩ := info_parts strInfo
  have HI := Lib.hid hi
  have HZ0 := Lib.hid hz0
  have HZ1 := Lib.hid hz1
  have HZ2 := Lib.hid hz2
  clear hi hz0 hz1 hz2
  go_enter Try.func7, Try.ntmps7
  go_wp2_with fail
  refine (written_true _).mono ?_
  rintro e w1 ⟨rfl, hb1⟩
  have H1 : Hid (PutsAt w1 (.slice p N cp) l) := RowAt.below H.out hb1
  go_wp2_with fail
  refine (light_any _ l _ H1.out HLM.out HS.out).mono ?_
  cases hlt : lightB l with
  | false =>
    rintro e w2 ⟨rfl, hb2⟩
    have hB2 := Below.step hb1 hb2
    clear hlt
    go_wp2
    go_ret
    exact ⟨rfl, hB2⟩
  | true =>
    rintro e w2 ⟨rfl, hb2⟩
    have hB2 := Below.step hb1 hb2
    have H2 : Hid (PutsAt w2 (.slice p N cp) l) := RowAt.below H1.out hb2
    by_cases hm : 100 < M
    · have hm2 : (100 : Int) < (M : Int) := by omega
      clear hlt
      go_wp2
      go_ret
      exact ⟨rfl, hB2⟩
    · have hm2 : ¬ (100 : Int) < (M : Int) := by omega
      have hl60 : l.length ≤ 60 := by unfold lightB at hlt; simp at hlt; exact hlt.1
      rw [← HN.out] at hl60
      clear hlt hb1 hb2
      go_wp2_with fail
      refine (pickN f0 ((N : Int) + 1) _ (by omega) (by omega)).mono ?_
      rintro e w' ⟨rfl, rfl⟩
      have hfN : pkN f0 ((N : Int) + 1) ≤ N := by
        have := pkN_lt f0 (N + 1) (by omega) (by omega)
        have e : ((N + 1 : Nat) : Int) = (N : Int) + 1 := by omega
        rw [e] at this
        omega
      generalize pkN f0 ((N : Int) + 1) = f at hfN ⊢
      go_wp2_with fail
      refine (pickN n0 16 _ (by omega) (by omega)).mono ?_
      rintro e w' ⟨rfl, rfl⟩
      obtain ⟨n, HNN⟩ : ∃ n, Hid (n = pkN n0 16) := ⟨_, rfl⟩
      rw [← HNN.out]
      have hn16 : n < 16 := by rw [HNN.out]; exact pkN_lt n0 16 (by omega) (by omega)
      go_wp2_with fail
      refine (spun_any _ l (f : Int) _ H2.out (by rw [← HN.out]; omega)).mono ?_
      rintro e w3 ⟨a, rfl, F1, hD1, hF1, hb3⟩
      have HD1 := Lib.hid hD1
      have HF1 := Lib.hid hF1
      have H3 : Hid (PutsAt w3 (.slice p N cp) l) := RowAt.below H2.out hb3
      clear hD1 hF1
      go_wp2_with fail
      refine (spun_any _ l (f : Int) _ H3.out (by rw [← HN.out]; omega)).mono ?_
      rintro e w4 ⟨b, rfl, F2, hD2, hF2, hb4⟩
      have HTW : Hid (TwoD w (.pointer (some a)) (.pointer (some b)) (spunE l (f : Int)) (spunE l (f : Int)) F1 F2 w4) :=
        ⟨HD1.out.below hb4, hD2, fun i hi => ⟨Nat.le_trans hB2.size (HF1.out i hi), fun hc => by have := HD1.out.fin i hi; have := hF2 i hc; omega⟩, fun i hi => Nat.le_trans (Nat.le_trans hB2.size hb3.size) (hF2 i hi), Below.step (Below.step hB2 hb3) hb4⟩
      have HWW : Hid ((spunE l (f : Int)).W = (l.drop f).map wOne) := spunF_end l f (by rw [← HN.out]; exact hfN)
      have HSS : Hid ((spunE l (f : Int)).S.length = 64 * 16) := hD2.lens.1
      generalize spunE l (f : Int) = st at *
      clear hD2 hF2 HD1 HF1 H3 hB2
      go_wp2_with fail
      refine (image_at HTW.out.1).mono ?_
      rintro e w5 ⟨v5, rfl, hv5⟩
      have HT5 : Hid (TwoD w (.pointer (some a)) (.pointer (some b)) st st F1 F2 w5) := HTW.out.below hv5.below
      obtain ⟨g5, cap5, cur5, hv5e, ⟨hg5, hcap5⟩, hh5, ht5, hb5⟩ := hv5
      subst hv5e
      have hlen5 : st.S.length = 1024 := HSS.out
      have HL5 := Lib.hid hlen5
      obtain ⟨B0, HB0⟩ : ∃ B, Hid (B = bytesS (sec st.S n)) := ⟨_, rfl⟩
      have hcv : (convert 26 9 (.slice (some ⟨g5, n * 64, none⟩) ((n + 1) * 64 - n * 64) (cap5 - n * 64))).run Try.prog w5 = .ok (.string B0) w5 := by
        rw [HB0.out, show (n + 1) * 64 - n * 64 = 64 by omega]
        refine conv_bytes ⟨by rw [u8s_len, Nat.mul_one], Or.inr ⟨g5, n * 64, _, by rw [sec_len (k := 16) HSS.out hn16], fun j x hx => ?_⟩⟩ (by rw [sec_len (k := 16) HSS.out hn16]; omega)
        have hj := (List.getElem?_eq_some_iff.1 hx).1
        rw [u8s_len, sec_len (k := 16) HSS.out hn16] at hj
        rw [cell_of_row _ _ _ _ _ _ hh5]
        unfold sec at hx
        rw [u8s_take, u8s_drop, List.getElem?_take, if_pos hj, List.getElem?_drop, ← ht5, List.getElem?_take, if_pos (by omega)] at hx
        rw [Nat.mul_comm]
        simpa using hx
      rw [hlen5] at hcap5 ⊢
      have hn1 : (0 : Int) ≤ (n : Int) := by omega
      have hn3 : ((n : Int) + 1) * 64 ≤ (cap5 : Int) := by omega
      have hcapn : ¬ cap5 = n * 64 := by omega
      have hf0 : (0 : Int) ≤ (f : Int) := by omega
      have hf1 : (f : Int) ≤ (N : Int) := by omega
      have H5 : Hid (PutsAt w5 (.slice p N cp) l) := RowAt.below H2.out (Below.step (Below.step hb3 hb4) hb5)
      clear hb5 hh5 ht5 HTW hlen5 hb3 hb4
      have HO5 : Hid ((w5.alloc (.cells #[.string B0] 9)).ownsRow w5.heap.size 9 1 (.slice (some ⟨w5.heap.size, 0, none⟩) 1 1) (mayB st.S n []).length (strs (mayB st.S n []))) := by
        have e : mayB st.S n [] = [B0] := by rw [HB0.out]; rfl
        rw [e]; exact strs_new w5 B0 _ (Nat.le_refl _)
      have HB5 : Hid (Below w.heap.size w w5) := HT5.out.2.2.2.2
      by_cases hfl : f < N
      · have hcf : ¬ cp = f := by omega
        obtain ⟨p', cp', hv', hp'⟩ := puts_open H.out N HN.out
        obtain ⟨g, o, hpg, hg, hc⟩ := hp' (by omega)
        have hpe : p = some ⟨g, o, none⟩ := by rw [← hpg]; injection hv'
        subst hpe
        have HC := Lib.hid hc
        clear hc hpg hv' hp'
        obtain ⟨R, hR⟩ : ∃ R, N - f = R := ⟨_, rfl⟩
        have hR2 : R + f ≤ N := by omega
        have hR3 : N ≤ R + f := by omega
        go_wp2

        clear hR
        go_loopw [12, 62] (fun v i wr => ∃ k : Nat, k ≤ R ∧ i = .int .i64 k ∧ Hid (wr.ownsRow w5.heap.size 9 1 v (mayB st.S n ((l.drop f).take k)).length (strs (mayB st.S n ((l.drop f).take k)))) ∧ Below w5.heap.size w5 wr) (fun _ i _ => R - (intOf i).toNat)
        case atStart => exact ⟨0, Nat.zero_le _, rfl, HO5, (Below.refl _ _).alloc (Nat.le_refl _) _⟩
        case round =>
          obtain ⟨k, hk, rfl, HO, hB⟩ := hrel
          by_cases hlt : k < R
          · have hkl : f + k < l.length := by rw [← HN.out]; omega
            have hck := HC.out (f + k) hkl
            obtain ⟨x, hx⟩ : ∃ x, Hid (x = l[f + k].1) := ⟨l[f + k].1, rfl⟩
            obtain ⟨s, hs⟩ : ∃ s, Hid (s = l[f + k].2) := ⟨l[f + k].2, rfl⟩
            rw [← hx.out, ← hs.out] at hck
            have hB' := Below.step HB5.out hB
            have c1 := (hB'.cell (p := ⟨g, o + (f + k) * 2, none⟩) hg).trans hck.1
            have c2 := (hB'.cell (p := ⟨g, o + ((f + k) * 2 + 1), none⟩) hg).trans hck.2
            rw [show o + (f + k) * 2 = o + f * 2 + k * 2 by omega] at c1
            rw [show o + ((f + k) * 2 + 1) = o + f * 2 + k * 2 + 1 by omega] at c2
            have hgl : g < wr.heap.size := Nat.lt_of_lt_of_le hg hB'.size
            have hgn : ¬ g = wr.heap.size := by omega
            have HX : Hid (mayB st.S n ((l.drop f).take (k + 1)) = mayB st.S n ((l.drop f).take k) ++ (if pkN x 16 = n then [bytesS (secS s)] else [])) := by
              show _ = _
              rw [← List.take_append_getElem (by rw [List.length_drop]; omega : k < (l.drop f).length), List.getElem_drop, mayB_snoc, hx.out, hs.out]
            have hml : (mayB st.S n ((l.drop f).take k)).length ≤ 61 := by
              have := mayB_len st.S n ((l.drop f).take k)
              rw [List.length_take] at this
              omega
            generalize mayB st.S n ((l.drop f).take k) = L at HO HX hml
            obtain ⟨m, HLm⟩ : ∃ m, Hid (m = L.length) := ⟨_, rfl⟩
            rw [← HLm.out] at HO hml
            clear hck hB'
            have hlt2 : (k : Int) < (R : Int) := by omega
            obtain ⟨q, cq, hvq, _⟩ := owns_slice HO.out
            subst hvq
            go_wp2_with fail
            refine (pickN x 16 _ (by omega) (by omega)).mono ?_
            rintro e w' ⟨rfl, rfl⟩
            obtain ⟨mm, HMM⟩ : ∃ m, Hid (m = pkN x 16) := ⟨_, rfl⟩
            rw [← HMM.out]
            rw [← HMM.out] at HX
            by_cases he : mm = n
            · have HX2 : Hid (mayB st.S n ((l.drop f).take (k + 1)) = L ++ [bytesS (secS s)]) := by show _ = _; rw [HX.out, if_pos he]
              subst he
              obtain ⟨B, HBB⟩ : ∃ B, Hid (B = bytesS (secS s)) := ⟨_, rfl⟩
              go_wp2_with fail
              refine (sector_any s _).mono ?_
              rintro e w7 ⟨v7, rfl, hv7⟩
              have hc7 : (convert 26 9 v7).run Try.prog w7 = .ok (.string B) w7 := by rw [HBB.out]; exact conv_bytes hv7.at (by rw [secS_len]; omega)
              have hB7 : Below w5.heap.size w5 w7 := (hB.alloc hB.size _).trans (hv7.below.mono (by have := hB.size; simp; omega))
              have HO7 : Hid (w7.ownsRow w5.heap.size 9 1 (.slice q m cq) m (strs L)) := owns_below (HO.out.alloc _) hv7.below
              have hlt' := (HO7.out.alloc (.cells #[.string B] 9)).lt
              clear hv7 HO
              go_wp2_with (at_builtin; refine wpList_append_own _ rfl _ _ 45 rfl w5.heap.size 9 i0 (.string { data := #[] }) 1 16 strsT HI.out HZ0.out HZ1.out HZ2.out rfl (by decide) _ _ _ rfl (HO7.out.alloc _) ⟨w7.heap.size, 0, none⟩ 1 1 [.string B] rfl rfl (fun j u hu => new_cells _ #[.string B] _ j u hu) (fun u hu => by simp at hu; subst hu; rfl) (by unfold maxLen; omega) (by omega) (by have := hB7.size; simp; omega) ?_; intro v' w8 hown hgrow _)
              have HO8 : Hid (w8.ownsRow w5.heap.size 9 1 v' (mayB st.S mm ((l.drop f).take (k + 1))).length (strs (mayB st.S mm ((l.drop f).take (k + 1))))) := by
                rw [HX2.out, List.length_append, ← HLm.out, ← HBB.out]
                have e : strs (L ++ [B]) = strs L ++ [.string B] := by simp [strs]
                rw [e]; exact hown
              have hB8 : Below w5.heap.size w5 w8 := Below.grown (hB7.alloc hB7.size _) hgrow (by have := hB7.size; simp; omega) (fun r hr => (hlt' r hr).1)
              clear hown hgrow hlt'
              go_wp2
              go_roundw
              case rel => exact ⟨k + 1, by omega, by go_num, HO8, hB8⟩
              case measure => simp [intOf]; omega
            · have HX2 : Hid (mayB st.S n ((l.drop f).take (k + 1)) = L) := by show _ = _; rw [HX.out, if_neg he, List.append_nil]
              have he2 : ((mm : Int) == (n : Int)) = false := by rw [beq_eq_false_iff_ne]; omega
              have he3 : ¬ (mm : Int) = (n : Int) := by omega
              have HO8 : Hid (∀ o, (wr.alloc o).ownsRow w5.heap.size 9 1 (.slice q m cq) (mayB st.S n ((l.drop f).take (k + 1))).length (strs (mayB st.S n ((l.drop f).take (k + 1))))) := fun o => by
                rw [HX2.out, ← HLm.out]; exact HO.out.alloc o
              go_wp2
              go_roundw
              case rel => exact ⟨k + 1, by omega, by go_num, HO8.out _, hB.alloc hB.size _⟩
              case measure => simp [intOf]; omega
          · obtain rfl : k = R := by omega
            have HLB : Hid (mayB st.S n ((l.drop f).take k) = mayB st.S n (l.drop f)) := by rw [List.take_of_length_le (by rw [List.length_drop, ← HN.out]; omega)]; exact rfl
            rw [HLB.out] at HO
            have HM1 : Hid (1 ≤ (mayB st.S n (l.drop f)).length ∧ (mayB st.S n (l.drop f)).length ≤ 61) := by
              have := mayB_len st.S n (l.drop f)
              rw [List.length_drop, ← HN.out] at this
              exact ⟨this.1, by omega⟩
            have HIN : Hid (∀ K, bytesS (sec (crashS st.S st.W K) n) ∈ mayB st.S n (l.drop f)) := fun K => by rw [HWW.out]; exact mayB_in st.S n hn16 (l.drop f) K HSS.out
            have HLA : Hid ((mayB st.S n (l.drop f))[(mayB st.S n (l.drop f)).length - 1]? = some (bytesS (sec (crashS st.S st.W (List.replicate N true)) n))) := by rw [HWW.out]; exact mayB_last st.S n hn16 (l.drop f) N HSS.out (by rw [List.length_drop, ← HN.out]; omega)
            generalize mayB st.S n (l.drop f) = L at *
            obtain ⟨m, HLm⟩ : ∃ m, Hid (m = L.length) := ⟨_, rfl⟩
            rw [← HLm.out] at HO HM1 HLA
            obtain ⟨hm1, hm61⟩ := HM1.out
            have HTR : Hid (TwoD w (.pointer (some a)) (.pointer (some b)) st st F1 F2 wr) := HT5.out.below hB
            obtain ⟨q, cq, hvq, hq⟩ := owns_slice HO.out
            obtain ⟨gq, hqe, hgq, hcq⟩ := hq (by omega)
            subst hqe hvq
            clear hcq
            have HFa : Hid (∀ i, F1 i → i < w5.heap.size) := HT5.out.1.fin
            have HFb : Hid (∀ i, F2 i → i < w5.heap.size) := HT5.out.2.1.fin
            go_wp2_with fail
            refine (crash_at HTR.out.1 _ K (fun w' hk => keep_bools HKV.out HTR.out.2.2.2.2 (fun i hi => (HTR.out.2.2.1 i hi).1) hk) (by rw [← HM.out]; omega)).mono ?_
            rintro e w6 ⟨rfl, hdid⟩
            have HO6 : Hid (w6.ownsRow w5.heap.size 9 1 (.slice (some ⟨gq, 0, none⟩) m cq) m (strs L)) := owns_keeps HO.out HFa.out hdid.keeps
            have hs6 : w5.heap.size ≤ w6.heap.size := Nat.le_trans hB.size hdid.keeps.size
            obtain ⟨F5, hT6⟩ := HTR.out.did hdid
            have HT6 := Lib.hid hT6.swap
            clear hdid hT6 HTR HO
            have kb : (w6.alloc (.cells #[.bool true] 4)).cell? ⟨w6.heap.size, 0, none⟩ = some (.bool true) := cell_of_row _ _ _ _ _ _ (heap_alloc_new w6 _)
            have HT7 : Hid (TwoD w (.pointer (some b)) (.pointer (some a)) st (crashE st K) F2 F5 (w6.alloc (.cells #[.bool true] 4))) := HT6.out.below ((Below.refl _ _).alloc (Nat.le_refl _) _)
            have HO7 : Hid ((w6.alloc (.cells #[.bool true] 4)).ownsRow w5.heap.size 9 1 (.slice (some ⟨gq, 0, none⟩) m cq) m (strs L)) := HO6.out.alloc _
            clear HT6 HO6
            go_wp2_with fail
            refine (repeat_true _ N _ (by omega) kb).mono ?_
            rintro e w8 ⟨g8, rfl, hg8, hh8, hb8⟩
            have HT8 : Hid (TwoD w (.pointer (some b)) (.pointer (some a)) st (crashE st K) F2 F5 w8) := HT7.out.below hb8
            have HO8 : Hid (w8.ownsRow w5.heap.size 9 1 (.slice (some ⟨gq, 0, none⟩) m cq) m (strs L)) := owns_below HO7.out hb8
            have HH8 := Lib.hid hh8
            have hg8' : w5.heap.size ≤ g8 := Nat.le_trans hs6 (Nat.le_trans (by simp) hg8)
            clear hh8 hb8 HT7 HO7 kb
            go_wp2_with fail
            refine (crash_at HT8.out.1 _ (List.replicate N true) (fun w' hk => bools_block (by rw [List.length_replicate]) ((hk.block g8 (heap_lt HH8.out) (fun hc => by have := HFb.out g8 hc; omega)).trans HH8.out)) (by rw [List.length_replicate]; omega)).mono ?_
            rintro e w9 ⟨rfl, hdid⟩
            have HO9 : Hid (w9.ownsRow w5.heap.size 9 1 (.slice (some ⟨gq, 0, none⟩) m cq) m (strs L)) := owns_keeps HO8.out HFb.out hdid.keeps
            obtain ⟨F6, hT9⟩ := HT8.out.did hdid
            have HTA : Hid (DiskAt w9.drew (.pointer (some a)) (crashE st K) 16 F5) := hT9.2.1.drew
            have HTB : Hid (DiskAt w9.drew (.pointer (some b)) (crashE st (List.replicate N true)) 16 F6) := hT9.1.drew
            have hB9 : Below w.heap.size w w9.drew := hT9.2.2.2.2.drew
            clear hdid hT9 HT8 HO8 HH8
            obtain ⟨B1, HB1⟩ : ∃ B, Hid (B = bytesS (sec (crashS st.S st.W K) n)) := ⟨_, rfl⟩
            obtain ⟨B2, HB2⟩ : ∃ B, Hid (B = bytesS (sec (crashS st.S st.W (List.replicate N true)) n)) := ⟨_, rfl⟩
            have HIN1 : Hid (B1 ∈ L) := by rw [HB1.out]; exact HIN.out K
            have hlast : w9.drew.cell? ⟨gq, m - 1, none⟩ = some (.string B2) := by
              obtain ⟨q', cq', hvq', hq'⟩ := owns_slice HO9.out
              obtain ⟨gq', hqe', _, hcq'⟩ := hq' (by omega)
              injection hvq' with e1
              rw [hqe'] at e1
              injection e1 with e1
              injection e1 with e1
              subst e1
              refine hcq' _ _ ?_
              unfold strs
              rw [List.getElem?_map, HLA.out, HB2.out]
              rfl
            have HSR : Hid (StrsAt w9.drew (.slice (some ⟨gq, 0, none⟩) m cq) L) := by
              have := RowAt.of_owns HO9.out
              rw [HLm.out] at this ⊢
              exact this
            have HS1 : Hid (0 < (sec (crashE st K).N n).length) := by rw [sec_len (k := 16) HTA.out.lens.2 hn16]; exact (by omega : 0 < 64)
            have HS2 : Hid (0 < (sec (crashE st (List.replicate N true)).N n).length) := by rw [sec_len (k := 16) HTB.out.lens.2 hn16]; exact (by omega : 0 < 64)
            have hi1 : (0 : Int) ≤ (m : Int) - 1 := by omega
            have hi2 : (1 : Int) ≤ (m : Int) := by omega
            have hi3 : (m : Int) - 1 < (m : Int) := by omega
            have hi4 : IntKind.i64.wrap ((m : Int) - 1) = (m : Int) - 1 := IntWalk.i64_in _ (by omega)
            have hi5 : ((m : Int) - 1).toNat = m - 1 := by omega
            have hgl9 : gq < w9.drew.heap.size := block_lt_of_cell hlast
            have HLA9 := Lib.hid hlast
            have HLL : Hid (L.length ≤ 1000000) := by rw [← HLm.out]; exact (by omega : m ≤ 1000000)
            go_wp2_with fail
            refine wp_region_noPanic ?_
            go_region_held_law (fun w' => w'.cell? ⟨gq, m - 1, none⟩ = some (.string B2))
              (first
                | exact hlast
                | exact m1
                | exact m2
                | (go_keep; done))
              (first
                | (go_at_call_of 13 (Value.pointer (some a)); refine (at_at HTA.out n hn16).mono ?_; rintro e w10 ⟨v10, rfl, hv10⟩
                   have hc10 : (convert 26 9 v10).run Try.prog w10 = .ok (.string B1) w10 := by rw [HB1.out]; exact conv_bytes hv10.at HS1.out
                   have HTC : Hid (DiskAt w10 (.pointer (some b)) (crashE st (List.replicate N true)) 16 F6) := HTB.out.below hv10.below
                   have m1 : w10.cell? ⟨gq, m - 1, none⟩ = some (.string B2) := (hv10.below.cell (p := ⟨gq, m - 1, none⟩) hgl9).trans HLA9.out
                   have HSQ : Hid (StrsAt w10 (.slice (some ⟨gq, 0, none⟩) m cq) L) := RowAt.below HSR.out hv10.below
                   have hB10 : Below w.heap.size w w10 := Below.step hB9 hv10.below
                   have hgl10 : gq < w10.heap.size := Nat.lt_of_lt_of_le hgl9 hv10.below.size
                   clear hv10)
                | (go_at_call 23; refine (containsS_true _ L B1 _ HSQ.out HLL.out HIN1.out).mono ?_; rintro e w' ⟨rfl, rfl⟩)
                | (go_at_call_of 13 (Value.pointer (some b)); refine (at_at HTC.out n hn16).mono ?_; rintro e w11 ⟨v11, rfl, hv11⟩
                   have hc11 : (convert 26 9 v11).run Try.prog w11 = .ok (.string B2) w11 := by rw [HB2.out]; exact conv_bytes hv11.at HS2.out
                   have m2 : w11.cell? ⟨gq, m - 1, none⟩ = some (.string B2) := (hv11.below.cell (p := ⟨gq, m - 1, none⟩) hgl10).trans m1
                   have hB11 : Below w.heap.size w w11 := Below.step hB10 hv11.below
                   clear hv11))
            all_goals
              refine NoPanic.normal ?_
              go_wp2
              go_ret
              exact ⟨rfl, hB11⟩
      · obtain rfl : N = f := by omega
        obtain ⟨R, hR⟩ : ∃ R, R = 0 := ⟨_, rfl⟩
        have hR2 : R + N ≤ N := by omega
        have hR3 : N ≤ R + N := by omega
        have HR0 := Lib.hid hR
        clear hR
        by_cases hcf : cp = N
        · obtain rfl : N = cp := by omega
          go_wp2
          go_loopw [12, 62] (fun v i wr => ∃ k : Nat, k ≤ R ∧ i = .int .i64 k ∧ Hid (wr.ownsRow w5.heap.size 9 1 v (mayB st.S n ((l.drop N).take k)).length (strs (mayB st.S n ((l.drop N).take k)))) ∧ Below w5.heap.size w5 wr) (fun _ i _ => R - (intOf i).toNat)
          case atStart => exact ⟨0, Nat.zero_le _, rfl, HO5, (Below.refl _ _).alloc (Nat.le_refl _) _⟩
          case round =>
            obtain ⟨k, hk, rfl, HO, hB⟩ := hrel
            have hk0 : ¬ (k : Int) < 0 := by omega
            by_cases hlt : k < R
            · exact absurd hlt (by have := HR0.out; omega)
            · obtain rfl : k = R := by omega
              have HLB : Hid (mayB st.S n ((l.drop N).take k) = mayB st.S n (l.drop N)) := by rw [List.take_of_length_le (by rw [List.length_drop, ← HN.out]; omega)]; exact rfl
              rw [HLB.out] at HO
              have HM1 : Hid (1 ≤ (mayB st.S n (l.drop N)).length ∧ (mayB st.S n (l.drop N)).length ≤ 61) := by
                have := mayB_len st.S n (l.drop N)
                rw [List.length_drop, ← HN.out] at this
                exact ⟨this.1, by omega⟩
              have HIN : Hid (∀ K, bytesS (sec (crashS st.S st.W K) n) ∈ mayB st.S n (l.drop N)) := fun K => by rw [HWW.out]; exact mayB_in st.S n hn16 (l.drop N) K HSS.out
              have HLA : Hid ((mayB st.S n (l.drop N))[(mayB st.S n (l.drop N)).length - 1]? = some (bytesS (sec (crashS st.S st.W (List.replicate N true)) n))) := by rw [HWW.out]; exact mayB_last st.S n hn16 (l.drop N) N HSS.out (by rw [List.length_drop, ← HN.out]; omega)
              generalize mayB st.S n (l.drop N) = L at *
              obtain ⟨m, HLm⟩ : ∃ m, Hid (m = L.length) := ⟨_, rfl⟩
              rw [← HLm.out] at HO HM1 HLA
              obtain ⟨hm1, hm61⟩ := HM1.out
              have HTR : Hid (TwoD w (.pointer (some a)) (.pointer (some b)) st st F1 F2 wr) := HT5.out.below hB
              obtain ⟨q, cq, hvq, hq⟩ := owns_slice HO.out
              obtain ⟨gq, hqe, hgq, hcq⟩ := hq (by omega)
              subst hqe hvq
              clear hcq
              have HFa : Hid (∀ i, F1 i → i < w5.heap.size) := HT5.out.1.fin
              have HFb : Hid (∀ i, F2 i → i < w5.heap.size) := HT5.out.2.1.fin
              go_wp2_with fail
              refine (crash_at HTR.out.1 _ K (fun w' hk => keep_bools HKV.out HTR.out.2.2.2.2 (fun i hi => (HTR.out.2.2.1 i hi).1) hk) (by rw [← HM.out]; omega)).mono ?_
              rintro e w6 ⟨rfl, hdid⟩
              have HO6 : Hid (w6.ownsRow w5.heap.size 9 1 (.slice (some ⟨gq, 0, none⟩) m cq) m (strs L)) := owns_keeps HO.out HFa.out hdid.keeps
              have hs6 : w5.heap.size ≤ w6.heap.size := Nat.le_trans hB.size hdid.keeps.size
              obtain ⟨F5, hT6⟩ := HTR.out.did hdid
              have HT6 := Lib.hid hT6.swap
              clear hdid hT6 HTR HO
              have kb : (w6.alloc (.cells #[.bool true] 4)).cell? ⟨w6.heap.size, 0, none⟩ = some (.bool true) := cell_of_row _ _ _ _ _ _ (heap_alloc_new w6 _)
              have HT7 : Hid (TwoD w (.pointer (some b)) (.pointer (some a)) st (crashE st K) F2 F5 (w6.alloc (.cells #[.bool true] 4))) := HT6.out.below ((Below.refl _ _).alloc (Nat.le_refl _) _)
              have HO7 : Hid ((w6.alloc (.cells #[.bool true] 4)).ownsRow w5.heap.size 9 1 (.slice (some ⟨gq, 0, none⟩) m cq) m (strs L)) := HO6.out.alloc _
              clear HT6 HO6
              go_wp2_with fail
              refine (repeat_true _ N _ (by omega) kb).mono ?_
              rintro e w8 ⟨g8, rfl, hg8, hh8, hb8⟩
              have HT8 : Hid (TwoD w (.pointer (some b)) (.pointer (some a)) st (crashE st K) F2 F5 w8) := HT7.out.below hb8
              have HO8 : Hid (w8.ownsRow w5.heap.size 9 1 (.slice (some ⟨gq, 0, none⟩) m cq) m (strs L)) := owns_below HO7.out hb8
              have HH8 := Lib.hid hh8
              have hg8' : w5.heap.size ≤ g8 := Nat.le_trans hs6 (Nat.le_trans (by simp) hg8)
              clear hh8 hb8 HT7 HO7 kb
              go_wp2_with fail
              refine (crash_at HT8.out.1 _ (List.replicate N true) (fun w' hk => bools_block (by rw [List.length_replicate]) ((hk.block g8 (heap_lt HH8.out) (fun hc => by have := HFb.out g8 hc; omega)).trans HH8.out)) (by rw [List.length_replicate]; omega)).mono ?_
              rintro e w9 ⟨rfl, hdid⟩
              have HO9 : Hid (w9.ownsRow w5.heap.size 9 1 (.slice (some ⟨gq, 0, none⟩) m cq) m (strs L)) := owns_keeps HO8.out HFb.out hdid.keeps
              obtain ⟨F6, hT9⟩ := HT8.out.did hdid
              have HTA : Hid (DiskAt w9.drew (.pointer (some a)) (crashE st K) 16 F5) := hT9.2.1.drew
              have HTB : Hid (DiskAt w9.drew (.pointer (some b)) (crashE st (List.replicate N true)) 16 F6) := hT9.1.drew
              have hB9 : Below w.heap.size w w9.drew := hT9.2.2.2.2.drew
              clear hdid hT9 HT8 HO8 HH8
              obtain ⟨B1, HB1⟩ : ∃ B, Hid (B = bytesS (sec (crashS st.S st.W K) n)) := ⟨_, rfl⟩
              obtain ⟨B2, HB2⟩ : ∃ B, Hid (B = bytesS (sec (crashS st.S st.W (List.replicate N true)) n)) := ⟨_, rfl⟩
              have HIN1 : Hid (B1 ∈ L) := by rw [HB1.out]; exact HIN.out K
              have hlast : w9.drew.cell? ⟨gq, m - 1, none⟩ = some (.string B2) := by
                obtain ⟨q', cq', hvq', hq'⟩ := owns_slice HO9.out
                obtain ⟨gq', hqe', _, hcq'⟩ := hq' (by omega)
                injection hvq' with e1
                rw [hqe'] at e1
                injection e1 with e1
                injection e1 with e1
                subst e1
                refine hcq' _ _ ?_
                unfold strs
                rw [List.getElem?_map, HLA.out, HB2.out]
                rfl
              have HSR : Hid (StrsAt w9.drew (.slice (some ⟨gq, 0, none⟩) m cq) L) := by
                have := RowAt.of_owns HO9.out
                rw [HLm.out] at this ⊢
                exact this
              have HS1 : Hid (0 < (sec (crashE st K).N n).length) := by rw [sec_len (k := 16) HTA.out.lens.2 hn16]; exact (by omega : 0 < 64)
              have HS2 : Hid (0 < (sec (crashE st (List.replicate N true)).N n).length) := by rw [sec_len (k := 16) HTB.out.lens.2 hn16]; exact (by omega : 0 < 64)
              have hi1 : (0 : Int) ≤ (m : Int) - 1 := by omega
              have hi2 : (1 : Int) ≤ (m : Int) := by omega
              have hi3 : (m : Int) - 1 < (m : Int) := by omega
              have hi4 : IntKind.i64.wrap ((m : Int) - 1) = (m : Int) - 1 := IntWalk.i64_in _ (by omega)
              have hi5 : ((m : Int) - 1).toNat = m - 1 := by omega
              have hgl9 : gq < w9.drew.heap.size := block_lt_of_cell hlast
              have HLA9 := Lib.hid hlast
              have HLL : Hid (L.length ≤ 1000000) := by rw [← HLm.out]; exact (by omega : m ≤ 1000000)
              go_wp2_with fail
              refine wp_region_noPanic ?_
              go_region_held_law (fun w' => w'.cell? ⟨gq, m - 1, none⟩ = some (.string B2))
                (first
                  | exact hlast
                  | exact m1
                  | exact m2
                  | (go_keep; done))
                (first
                  | (go_at_call_of 13 (Value.pointer (some a)); refine (at_at HTA.out n hn16).mono ?_; rintro e w10 ⟨v10, rfl, hv10⟩
                     have hc10 : (convert 26 9 v10).run Try.prog w10 = .ok (.string B1) w10 := by rw [HB1.out]; exact conv_bytes hv10.at HS1.out
                     have HTC : Hid (DiskAt w10 (.pointer (some b)) (crashE st (List.replicate N true)) 16 F6) := HTB.out.below hv10.below
                     have m1 : w10.cell? ⟨gq, m - 1, none⟩ = some (.string B2) := (hv10.below.cell (p := ⟨gq, m - 1, none⟩) hgl9).trans HLA9.out
                     have HSQ : Hid (StrsAt w10 (.slice (some ⟨gq, 0, none⟩) m cq) L) := RowAt.below HSR.out hv10.below
                     have hB10 : Below w.heap.size w w10 := Below.step hB9 hv10.below
                     have hgl10 : gq < w10.heap.size := Nat.lt_of_lt_of_le hgl9 hv10.below.size
                     clear hv10)
                  | (go_at_call 23; refine (containsS_true _ L B1 _ HSQ.out HLL.out HIN1.out).mono ?_; rintro e w' ⟨rfl, rfl⟩)
                  | (go_at_call_of 13 (Value.pointer (some b)); refine (at_at HTC.out n hn16).mono ?_; rintro e w11 ⟨v11, rfl, hv11⟩
                     have hc11 : (convert 26 9 v11).run Try.prog w11 = .ok (.string B2) w11 := by rw [HB2.out]; exact conv_bytes hv11.at HS2.out
                     have m2 : w11.cell? ⟨gq, m - 1, none⟩ = some (.string B2) := (hv11.below.cell (p := ⟨gq, m - 1, none⟩) hgl10).trans m1
                     have hB11 : Below w.heap.size w w11 := Below.step hB10 hv11.below
                     clear hv11))
              all_goals
                refine NoPanic.normal ?_
                go_wp2
                go_ret
                exact ⟨rfl, hB11⟩
        · skip
          go_wp2
          go_loopw [12, 62] (fun v i wr => ∃ k : Nat, k ≤ R ∧ i = .int .i64 k ∧ Hid (wr.ownsRow w5.heap.size 9 1 v (mayB st.S n ((l.drop N).take k)).length (strs (mayB st.S n ((l.drop N).take k)))) ∧ Below w5.heap.size w5 wr) (fun _ i _ => R - (intOf i).toNat)
          case atStart => exact ⟨0, Nat.zero_le _, rfl, HO5, (Below.refl _ _).alloc (Nat.le_refl _) _⟩
          case round =>
            obtain ⟨k, hk, rfl, HO, hB⟩ := hrel
            have hk0 : ¬ (k : Int) < 0 := by omega
            by_cases hlt : k < R
            · exact absurd hlt (by have := HR0.out; omega)
            · obtain rfl : k = R := by omega
              have HLB : Hid (mayB st.S n ((l.drop N).take k) = mayB st.S n (l.drop N)) := by rw [List.take_of_length_le (by rw [List.length_drop, ← HN.out]; omega)]; exact rfl
              rw [HLB.out] at HO
              have HM1 : Hid (1 ≤ (mayB st.S n (l.drop N)).length ∧ (mayB st.S n (l.drop N)).length ≤ 61) := by
                have := mayB_len st.S n (l.drop N)
                rw [List.length_drop, ← HN.out] at this
                exact ⟨this.1, by omega⟩
              have HIN : Hid (∀ K, bytesS (sec (crashS st.S st.W K) n) ∈ mayB st.S n (l.drop N)) := fun K => by rw [HWW.out]; exact mayB_in st.S n hn16 (l.drop N) K HSS.out
              have HLA : Hid ((mayB st.S n (l.drop N))[(mayB st.S n (l.drop N)).length - 1]? = some (bytesS (sec (crashS st.S st.W (List.replicate N true)) n))) := by rw [HWW.out]; exact mayB_last st.S n hn16 (l.drop N) N HSS.out (by rw [List.length_drop, ← HN.out]; omega)
              generalize mayB st.S n (l.drop N) = L at *
              obtain ⟨m, HLm⟩ : ∃ m, Hid (m = L.length) := ⟨_, rfl⟩
              rw [← HLm.out] at HO HM1 HLA
              obtain ⟨hm1, hm61⟩ := HM1.out
              have HTR : Hid (TwoD w (.pointer (some a)) (.pointer (some b)) st st F1 F2 wr) := HT5.out.below hB
              obtain ⟨q, cq, hvq, hq⟩ := owns_slice HO.out
              obtain ⟨gq, hqe, hgq, hcq⟩ := hq (by omega)
              subst hqe hvq
              clear hcq
              have HFa : Hid (∀ i, F1 i → i < w5.heap.size) := HT5.out.1.fin
              have HFb : Hid (∀ i, F2 i → i < w5.heap.size) := HT5.out.2.1.fin
              go_wp2_with fail
              refine (crash_at HTR.out.1 _ K (fun w' hk => keep_bools HKV.out HTR.out.2.2.2.2 (fun i hi => (HTR.out.2.2.1 i hi).1) hk) (by rw [← HM.out]; omega)).mono ?_
              rintro e w6 ⟨rfl, hdid⟩
              have HO6 : Hid (w6.ownsRow w5.heap.size 9 1 (.slice (some ⟨gq, 0, none⟩) m cq) m (strs L)) := owns_keeps HO.out HFa.out hdid.keeps
              have hs6 : w5.heap.size ≤ w6.heap.size := Nat.le_trans hB.size hdid.keeps.size
              obtain ⟨F5, hT6⟩ := HTR.out.did hdid
              have HT6 := Lib.hid hT6.swap
              clear hdid hT6 HTR HO
              have kb : (w6.alloc (.cells #[.bool true] 4)).cell? ⟨w6.heap.size, 0, none⟩ = some (.bool true) := cell_of_row _ _ _ _ _ _ (heap_alloc_new w6 _)
              have HT7 : Hid (TwoD w (.pointer (some b)) (.pointer (some a)) st (crashE st K) F2 F5 (w6.alloc (.cells #[.bool true] 4))) := HT6.out.below ((Below.refl _ _).alloc (Nat.le_refl _) _)
              have HO7 : Hid ((w6.alloc (.cells #[.bool true] 4)).ownsRow w5.heap.size 9 1 (.slice (some ⟨gq, 0, none⟩) m cq) m (strs L)) := HO6.out.alloc _
              clear HT6 HO6
              go_wp2_with fail
              refine (repeat_true _ N _ (by omega) kb).mono ?_
              rintro e w8 ⟨g8, rfl, hg8, hh8, hb8⟩
              have HT8 : Hid (TwoD w (.pointer (some b)) (.pointer (some a)) st (crashE st K) F2 F5 w8) := HT7.out.below hb8
              have HO8 : Hid (w8.ownsRow w5.heap.size 9 1 (.slice (some ⟨gq, 0, none⟩) m cq) m (strs L)) := owns_below HO7.out hb8
              have HH8 := Lib.hid hh8
              have hg8' : w5.heap.size ≤ g8 := Nat.le_trans hs6 (Nat.le_trans (by simp) hg8)
              clear hh8 hb8 HT7 HO7 kb
              go_wp2_with fail
              refine (crash_at HT8.out.1 _ (List.replicate N true) (fun w' hk => bools_block (by rw [List.length_replicate]) ((hk.block g8 (heap_lt HH8.out) (fun hc => by have := HFb.out g8 hc; omega)).trans HH8.out)) (by rw [List.length_replicate]; omega)).mono ?_
              rintro e w9 ⟨rfl, hdid⟩
              have HO9 : Hid (w9.ownsRow w5.heap.size 9 1 (.slice (some ⟨gq, 0, none⟩) m cq) m (strs L)) := owns_keeps HO8.out HFb.out hdid.keeps
              obtain ⟨F6, hT9⟩ := HT8.out.did hdid
              have HTA : Hid (DiskAt w9.drew (.pointer (some a)) (crashE st K) 16 F5) := hT9.2.1.drew
              have HTB : Hid (DiskAt w9.drew (.pointer (some b)) (crashE st (List.replicate N true)) 16 F6) := hT9.1.drew
              have hB9 : Below w.heap.size w w9.drew := hT9.2.2.2.2.drew
              clear hdid hT9 HT8 HO8 HH8
              obtain ⟨B1, HB1⟩ : ∃ B, Hid (B = bytesS (sec (crashS st.S st.W K) n)) := ⟨_, rfl⟩
              obtain ⟨B2, HB2⟩ : ∃ B, Hid (B = bytesS (sec (crashS st.S st.W (List.replicate N true)) n)) := ⟨_, rfl⟩
              have HIN1 : Hid (B1 ∈ L) := by rw [HB1.out]; exact HIN.out K
              have hlast : w9.drew.cell? ⟨gq, m - 1, none⟩ = some (.string B2) := by
                obtain ⟨q', cq', hvq', hq'⟩ := owns_slice HO9.out
                obtain ⟨gq', hqe', _, hcq'⟩ := hq' (by omega)
                injection hvq' with e1
                rw [hqe'] at e1
                injection e1 with e1
                injection e1 with e1
                subst e1
                refine hcq' _ _ ?_
                unfold strs
                rw [List.getElem?_map, HLA.out, HB2.out]
                rfl
              have HSR : Hid (StrsAt w9.drew (.slice (some ⟨gq, 0, none⟩) m cq) L) := by
                have := RowAt.of_owns HO9.out
                rw [HLm.out] at this ⊢
                exact this
              have HS1 : Hid (0 < (sec (crashE st K).N n).length) := by rw [sec_len (k := 16) HTA.out.lens.2 hn16]; exact (by omega : 0 < 64)
              have HS2 : Hid (0 < (sec (crashE st (List.replicate N true)).N n).length) := by rw [sec_len (k := 16) HTB.out.lens.2 hn16]; exact (by omega : 0 < 64)
              have hi1 : (0 : Int) ≤ (m : Int) - 1 := by omega
              have hi2 : (1 : Int) ≤ (m : Int) := by omega
              have hi3 : (m : Int) - 1 < (m : Int) := by omega
              have hi4 : IntKind.i64.wrap ((m : Int) - 1) = (m : Int) - 1 := IntWalk.i64_in _ (by omega)
              have hi5 : ((m : Int) - 1).toNat = m - 1 := by omega
              have hgl9 : gq < w9.drew.heap.size := block_lt_of_cell hlast
              have HLA9 := Lib.hid hlast
              have HLL : Hid (L.length ≤ 1000000) := by rw [← HLm.out]; exact (by omega : m ≤ 1000000)
              go_wp2_with fail
              refine wp_region_noPanic ?_
              go_region_held_law (fun w' => w'.cell? ⟨gq, m - 1, none⟩ = some (.string B2))
                (first
                  | exact hlast
                  | exact m1
                  | exact m2
                  | (go_keep; done))
                (first
                  | (go_at_call_of 13 (Value.pointer (some a)); refine (at_at HTA.out n hn16).mono ?_; rintro e w10 ⟨v10, rfl, hv10⟩
                     have hc10 : (convert 26 9 v10).run Try.prog w10 = .ok (.string B1) w10 := by rw [HB1.out]; exact conv_bytes hv10.at HS1.out
                     have HTC : Hid (DiskAt w10 (.pointer (some b)) (crashE st (List.replicate N true)) 16 F6) := HTB.out.below hv10.below
                     have m1 : w10.cell? ⟨gq, m - 1, none⟩ = some (.string B2) := (hv10.below.cell (p := ⟨gq, m - 1, none⟩) hgl9).trans HLA9.out
                     have HSQ : Hid (StrsAt w10 (.slice (some ⟨gq, 0, none⟩) m cq) L) := RowAt.below HSR.out hv10.below
                     have hB10 : Below w.heap.size w w10 := Below.step hB9 hv10.below
                     have hgl10 : gq < w10.heap.size := Nat.lt_of_lt_of_le hgl9 hv10.below.size
                     clear hv10)
                  | (go_at_call 23; refine (containsS_true _ L B1 _ HSQ.out HLL.out HIN1.out).mono ?_; rintro e w' ⟨rfl, rfl⟩)
                  | (go_at_call_of 13 (Value.pointer (some b)); refine (at_at HTC.out n hn16).mono ?_; rintro e w11 ⟨v11, rfl, hv11⟩
                     have hc11 : (convert 26 9 v11).run Try.prog w11 = .ok (.string B2) w11 := by rw [HB2.out]; exact conv_bytes hv11.at HS2.out
                     have m2 : w11.cell? ⟨gq, m - 1, none⟩ = some (.string B2) := (hv11.below.cell (p := ⟨gq, m - 1, none⟩) hgl10).trans m1
                     have hB11 : Below w.heap.size w w11 := Below.step hB10 hv11.below
                     clear hv11))
              all_goals
                refine NoPanic.normal ?_
                go_wp2
                go_ret
                exact ⟨rfl, hB11⟩

theorem diskEach_true (v : Value) (l : List (Int × ByteArray)) (h1 : l.length ≤ maxLen) (hx : ∀ x, x ∈ l → x.2.size ≤ maxLen) (f : Int) (kv : Value) (K : List Bool) (hK : K.length ≤ maxLen) (n : Int) (w : World) (h : PutsAt w v l) (hk : BoolsAt w kv K) (hcap : ∃ p c, v = .slice p l.length c ∧ l.length ≤ c) :
    Calls Try.prog 7 #[v, .int .i64 f, kv, .int .i64 n] w fun e w' => e = .returned (.bool true) ∧ Below w.heap.size w w' :=
  diskEach_raw v l f kv K n w h h1 hx hcap hk hK

-- CLOSING

set_option maxRecDepth 100000 in
theorem diskEach_lifted (os : Os) (started : os.Started) (H : Type) (enc' : TypeId × Value → H) :
    ReturnsInHanded {} Try.checked os 7 .any (Rows.diskEachSpec.pre6 enc' Try.prog Try.f7 Rows.diskEachRow.domain false) (Rows.diskEachSpec.post enc' Try.prog Try.f7 false true false false) := by
  refine returnsInHanded_of_change (C := Try.checked) Try.own started (by kernel_rfl) Try.func7
    (ChangeSpec.witness6 (enc := enc') (C := Try.checked) false ⟨#[], #[(.slice none 0 0), (.int .i64 0), (.slice none 0 0), (.int .i64 0)], []⟩ 8 (by kernel_rfl) (by kernel_rfl) (by kernel_rfl) (by kernel_rfl)) ?_
  intro W base args ds gs before hval0 hW hcnd _
  have hval : ∀ (j : Nat) t v, Try.f7.params[j]? = some t → args[j]? = some v → Value.okWide Try.prog W .any base t v := hval0
  have hW' := hW
  obtain ⟨p, q, hA0, hV, rfl, hfz, hnd⟩ := hW
  have hA : DataW.TrodAll enc' Try.prog W 0 (fun _ => true) true Try.f7.params.toList args.toList ds p := hA0
  rw [Try.params7] at hA hval
  obtain ⟨v0, v1, v2, v3, d0, d1, d2, d3, p0, p1, p2, p3, rfl, rfl, rfl, h0, h1, h2, h3⟩ := trodAll_four hA
  obtain ⟨rfl, rfl⟩ := trodVars_none hV
  obtain ⟨l0, hI0, hM0, hx0⟩ := open_putsAt (P := Try.prog) Try.underlying22 Try.underlying29 (by kernel_rfl) rfl rfl (by kernel_rfl) (by kernel_rfl) (by kernel_rfl) (by kernel_rfl) (hval 0 22 v0 rfl rfl) h0
  have hC0 := open_putsCap (P := Try.prog) Try.underlying22 Try.underlying29 (by kernel_rfl) rfl rfl (by kernel_rfl) (by kernel_rfl) (hval 0 22 v0 rfl rfl) h0 hI0
  obtain ⟨fl, rfl, rfl, rfl, wfl⟩ := open_int Try.underlying3 (hval 1 3 v1 rfl rfl) h1
  obtain ⟨l2, hI2, hM2⟩ := open_boolsAt (P := Try.prog) Try.underlying34 Try.underlying4 (by kernel_rfl) (hval 2 34 v2 rfl rfl) h2
  obtain ⟨n, rfl, rfl, rfl, wn⟩ := open_int Try.underlying3 (hval 3 3 v3 rfl rfl) h3
  clear hA0 hval0
  refine (diskEach_true _ l0 hM0 hx0 fl _ l2 hM2 n W hI0 hI2 hC0).mono fun e W' ⟨he, hw⟩ => ?_
  subst he
  exact ⟨_, rfl, law_post 4 Try.laidOut (by kernel_rfl) rfl rfl Try.underlying4 hW' rfl hw⟩

theorem diskEach_holds : Rows.DiskEachSaid :=
  OpenClaim.holds_of_wide 7 Try.f7 rfl rfl rfl rfl rfl rfl rfl ⟨rfl, rfl, rfl, rfl, rfl⟩ rfl rfl rfl rfl rfl (by kernel_rfl) Try.func7 (by kernel_rfl)
    (of_decide_eq_true (by kernel_rfl)) (by unfold Func.isWrapper; first | (rw [if_pos (by decide +kernel)]; kernel_rfl) | (rw [if_neg (by decide +kernel)]; exact ⟨rfl, rfl⟩))
    (fun os started H enc _ => diskEach_lifted os started H enc)

end Go.Proofs.Ytappfgjomndlmaa
