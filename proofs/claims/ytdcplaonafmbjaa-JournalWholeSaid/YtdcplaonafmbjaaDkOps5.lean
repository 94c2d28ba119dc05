/- The power goes, and comes again. -/
import Derived.Test.YtdcplaonafmbjaaDkOps4
namespace Go.Proofs.Ytdcplaonafmbjaa
open Go.RowKit

def bools (K : List Bool) : List Value := K.map Value.bool
def BoolsAt (w : World) (v : Value) (K : List Bool) : Prop := RowAt w v 1 K.length (bools K)
theorem bools_get (l : List Bool) (j : Nat) (hj : j < l.length) : (bools l)[j]? = some (.bool l[j]) := by simp [bools, hj]

/-- What lasts, of what waited just what is kept. -/
def crashS (S : List Int) : List (Nat × List Int) → List Bool → List Int
  | [], _ => S
  | _ :: _, [] => S
  | (n, D) :: W, b :: K => crashS (if b then putS S n D else S) W K
def crashE (st : Dk) (K : List Bool) : Dk := { S := crashS st.S st.W K, N := crashS st.S st.W K, W := [], fu := -1 }
theorem crashS_none (S : List Int) (W : List (Nat × List Int)) : crashS S W [] = S := by cases W <;> rfl

section
variable {w w' : World} {gd gs gn : Nat} {wt : Value} {E : List (Nat × Value)} {st : Dk} {L k : Nat} {F : Nat → Prop}
theorem Lies.alloc (h : Lies w gd gs gn wt E st L k F) (o : Obj) : Lies (w.alloc o) gd gs gn wt E st L k F :=
  h.keep (fun i hi => Below.heap_alloc w o i (h.fin i hi)) (by simp)

set_option maxRecDepth 100000 in
set_option maxHeartbeats 4000000 in
theorem crash_lies (h : Lies w gd gs gn wt E st L k F) (kv : Value) (K : List Bool) (hk : ∀ w', Keeps F w w' → BoolsAt w' kv K) (hK : K.length ≤ 9223372036854775807) :
    Calls Try.prog 26 #[.pointer (some ⟨gd, 0, none⟩), kv] w fun e w' => e = .returned (.tuple #[]) ∧ Did (.pointer (some ⟨gd, 0, none⟩)) (crashE st K) k F w w' := by
  have H := Lib.hid h
  have HK := Lib.hid hk
  obtain ⟨M, HM⟩ : ∃ M, Hid (M = K.length) := ⟨_, rfl⟩
  obtain ⟨p, cp, hu⟩ : ∃ p cp, kv = .slice p M cp := by
    obtain ⟨_, ⟨h0, a0, c0, rfl⟩ | ⟨g, o, cap, rfl, _⟩⟩ := hk w (Keeps.refl _ _)
    · exact ⟨a0, c0, by rw [HM.out, h0]⟩
    · exact ⟨_, cap, by rw [HM.out]⟩
  subst hu
  rw [← HM.out] at hK
  obtain ⟨N, HN⟩ : ∃ N, Hid (N = E.length) := ⟨_, rfl⟩
  obtain ⟨q, cq, hv, _⟩ := owns_slice h.own
  rw [← HN.out] at hv
  subst hv
  have c2 := h.c2
  have hs := h.small
  rw [← HN.out] at hs
  have h4 := h.k1
  have hL : 64 * k ≤ L := by have := h.hL; omega
  have hL1 : L ≤ 64 * k := by have := h.hL; omega
  clear hk h
  go_enter Try.func26, Try.ntmps26
  go_wp2
  go_loopw [11] (fun i wr => ∃ (j : Nat) (S1 : List Int), j ≤ N ∧ i = .int .i64 j ∧ Hid (crashS S1 (st.W.drop j) (K.drop j) = crashS st.S st.W K) ∧ Hid (Lies wr gd gs gn (.slice q N cq) E { st with S := S1 } L k F) ∧ Hid (Keeps F w wr)) (fun i _ => N - (intOf i).toNat)
  case atStart => exact ⟨0, st.S, Nat.zero_le _, rfl, rfl, H.out, Keeps.refl _ _⟩
  case round =>
    obtain ⟨j, S1, hj, rfl, HC, HL, HKP⟩ := hrel
    by_cases hlt : j < N
    · have hjl : j < E.length := by rw [← HN.out]; exact hlt
      obtain ⟨q', cq', hv', hcell⟩ := owns_slice HL.out.own
      obtain ⟨gw, hq, _, hcell⟩ := hcell (by omega)
      have e0 : q = some ⟨gw, 0, none⟩ := by rw [← hq]; injection hv'
      subst e0
      have hp := ecells_get E j hjl
      obtain ⟨n, hn⟩ : ∃ n, Hid (n = E[j].1) := ⟨E[j].1, rfl⟩
      obtain ⟨v, hv⟩ : ∃ v, Hid (v = E[j].2) := ⟨E[j].2, rfl⟩
      rw [← hn.out, ← hv.out] at hp
      have d1 := hcell _ _ hp.1
      have d2 := hcell _ _ hp.2
      obtain ⟨hnk, D, hW, gD, cD, curD, hvD, hDl, hFD, hDs, hDn, hhD, htD⟩ := HL.out.ent j n v (by rw [hn.out, hv.out]; simp [hjl])
      subst hvD
      have HDL := Lib.hid hDl
      have HHD := Lib.hid hhD
      have HTD := Lib.hid htD
      have HW : Hid (st.W.drop j = (n, D) :: st.W.drop (j + 1)) := by
        have hjw : j < st.W.length := (List.getElem?_eq_some_iff.1 hW).1
        rw [List.drop_eq_getElem_cons hjw]
        congr 1
        rw [List.getElem?_eq_getElem hjw] at hW
        injection hW
      have c0 := HL.out.c0
      have hgl : gd < wr.heap.size := HL.out.fin _ HL.out.fd
      have hgn : ¬ gd = wr.heap.size := by omega
      have hgw : gw < wr.heap.size := block_lt_of_cell d1
      have hgwn : ¬ gw = wr.heap.size := by omega
      have hn3 : (n : Int) * 64 ≤ (L : Int) := by omega
      have hn2 : (0 : Int) ≤ (n : Int) := by omega
      have hcap : ¬ L = n * 64 := by omega
      have hlt2 : (j : Int) < (N : Int) := by omega
      clear hcell hp hq hv' hn hv hW hDl hhD htD
      by_cases hkj : j < M
      · have hjk : j < K.length := by rw [← HM.out]; exact hkj
        obtain ⟨_, ⟨h0, _⟩ | ⟨gk, ok, ck, hkv, hkc⟩⟩ := HK.out wr HKP.out
        · omega
        have e1 : p = some ⟨gk, ok, none⟩ := by injection hkv
        subst e1
        have k1 := hkc _ _ (bools_get K j hjk)
        obtain ⟨b, hb⟩ : ∃ b, Hid (b = K[j]) := ⟨K[j], rfl⟩
        rw [← hb.out] at k1
        have HKD : Hid (K.drop j = b :: K.drop (j + 1)) := by rw [List.drop_eq_getElem_cons hjk, hb.out]; exact rfl
        have hgk : gk < wr.heap.size := block_lt_of_cell k1
        have hgkn : ¬ gk = wr.heap.size := by omega
        have hkj2 : (j : Int) < (M : Int) := by omega
        clear hkc hkv hb
        cases b with
        | true =>
          have HC2 : Hid (crashS (putS S1 n D) (st.W.drop (j + 1)) (K.drop (j + 1)) = crashS st.S st.W K) := by
            have := HC.out
            rw [HW.out, HKD.out] at this
            exact this
          go_wp2
          have hla := HL.out.alloc (.cells #[.int .i64 (n : Int), .slice (some ⟨gD, 0, none⟩) 64 cD] 90)
          have hka := HKP.out.step (Keeps.alloc (.cells #[.int .i64 (n : Int), .slice (some ⟨gD, 0, none⟩) 64 cD] 90))
          have hda := heap_alloc_keep HHD.out (.cells #[.int .i64 (n : Int), .slice (some ⟨gD, 0, none⟩) 64 cD] 90)
          have a1 : (wr.alloc (.cells #[.int .i64 (n : Int), .slice (some ⟨gD, 0, none⟩) 64 cD] 90)).cell? ⟨wr.heap.size, 0, none⟩ = some (.int .i64 (n : Int)) := cell_of_row _ _ _ _ _ _ (heap_alloc_new wr _)
          have a2 : (wr.alloc (.cells #[.int .i64 (n : Int), .slice (some ⟨gD, 0, none⟩) 64 cD] 90)).cell? ⟨wr.heap.size, 1, none⟩ = some (.slice (some ⟨gD, 0, none⟩) 64 cD) := cell_of_row _ _ _ _ _ _ (heap_alloc_new wr _)
          generalize wr.alloc (.cells #[.int .i64 (n : Int), .slice (some ⟨gD, 0, none⟩) 64 cD] 90) = wq at *
          have HLA := Lib.hid hla
          have HKA := Lib.hid hka
          have HDA := Lib.hid hda
          have a0 := hla.c0
          clear hla hka hda c0 d1 d2 k1
          have hw1 : IntKind.i64.wrap ((n : Int) * 64) = (n : Int) * 64 := IntWalk.i64_in _ (by omega)
          have hw2 : 0 ≤ (n : Int) * 64 := by omega
          have hw3 : ((n : Int) * 64).toNat = n * 64 := by omega
          go_still_tail 10, (by kernel_rfl)
          clear hw1 hw2 hw3
          go_wp2_with fail
          rw [run_copy_bytes _ 42 42 _ 5 u8sT u8Size gs (n * 64) (L - n * 64) (L - n * 64) _ S1 D 5 HLA.out.drew.hs (bytes_of_row HDL.out HDA.out HTD.out) (by rw [HDL.out]; omega) (by rw [HDL.out]; omega) (by rw [HDL.out]; have := HL.out.ls; simp only at this; rw [this]; omega)]
          have e : over S1 (n * 64) D = putS S1 n D := by unfold over putS; rw [HDL.out, Nat.mul_comm n 64]
          rw [e]
          have hlS : (putS S1 n D).length = L := by
            have h1 := HL.out.ls
            have h2 := HL.out.hL
            simp only at h1
            rw [putS_len (k := k) (by rw [h1, h2]) hnk HDL.out, h2]
          clear e
          have HLS := Lib.hid hlS
          clear hlS
          go_wp2
          go_roundw
          case rel => exact ⟨j + 1, putS S1 n D, by omega, by go_num, HC2, HLA.out.drew.setS _ HLS.out, HKA.out.drew.step (Keeps.setRow HL.out.fs _)⟩
          case measure => simp [intOf]; omega
        | false =>
          have HC2 : Hid (crashS S1 (st.W.drop (j + 1)) (K.drop (j + 1)) = crashS st.S st.W K) := by
            have := HC.out
            rw [HW.out, HKD.out] at this
            exact this
          go_wp2
          go_roundw
          case rel => exact ⟨j + 1, S1, by omega, by go_num, HC2, HL.out.alloc _, HKP.out.step (Keeps.alloc _)⟩
          case measure => simp [intOf]; omega
      · have HC2 : Hid (crashS S1 (st.W.drop (j + 1)) (K.drop (j + 1)) = crashS st.S st.W K) := by
          have := HC.out
          rw [List.drop_of_length_le (l := K) (by rw [← HM.out]; omega), crashS_none] at this
          rw [List.drop_of_length_le (l := K) (by rw [← HM.out]; omega), crashS_none]
          exact this
        have hkj2 : ¬ (j : Int) < (M : Int) := by omega
        go_wp2
        go_roundw
        case rel => exact ⟨j + 1, S1, by omega, by go_num, HC2, HL.out.alloc _, HKP.out.step (Keeps.alloc _)⟩
        case measure => simp [intOf]; omega
    · have HC2 : Hid (S1 = crashS st.S st.W K) := by
        have := HC.out
        rw [List.drop_of_length_le (by rw [← HL.out.len, ← HN.out]; omega)] at this
        exact this
      have c0 := HL.out.c0
      have c1 := HL.out.c1
      go_wp2
      go_still_tail 8, (by kernel_rfl)
      go_wp2_with fail
      have hl1 : S1.length = L := HL.out.ls
      have hl2 : st.N.length = L := HL.out.ln
      have h16 := HL.out.k0
      rw [run_copy_bytes _ 42 42 _ 5 u8sT u8Size gn 0 L L _ st.N S1 5 HL.out.drew.hn HL.out.drew.bytesS (by omega) (by omega) (by omega)]
      have e : over st.N 0 S1 = S1 := over_all (by omega)
      rw [e]
      have h2 := HL.out.drew.setN S1 hl1
      have H2 := Lib.hid h2
      have z2 := h2.z 2
      have z3 := h2.z 3
      have d2 := h2.c2
      have d3 := h2.c3
      clear h2 e hl1 hl2
      go_wp2
      go_end0
      have h3 := H2.out.clearW.setFu (-1) (by omega) (by omega)
      refine ⟨rfl, F, ⟨gd, gs, gn, .slice none 0 0, [], L, rfl, ?_⟩, fun _ hi => Or.inl hi, ?_⟩
      · unfold crashE
        rw [← HC2.out]
        exact h3
      · exact ((HKP.out.drew.step (Keeps.setRow HL.out.fn _)).step (Keeps.setCell HL.out.fd _)).step (Keeps.setCell HL.out.fd _)
end

end Go.Proofs.Ytdcplaonafmbjaa
