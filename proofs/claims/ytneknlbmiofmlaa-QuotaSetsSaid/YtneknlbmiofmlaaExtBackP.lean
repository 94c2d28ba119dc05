/- Runs and bytes, there and back, plainly. -/
import Derived.Test.YtneknlbmiofmlaaExtEqB
namespace Go.Proofs.Ytneknlbmiofmlaa
open Go.RowKit

theorem runsE_pack : ∀ (l : List (Int × Int)) (n : Nat), (∀ x, x ∈ l → 0 < x.2) → runsE (flatE l ++ List.replicate n 0) = l
  | [], 0, _ => rfl
  | [], 1, _ => rfl
  | [], n + 2, _ => by simp [flatE, List.replicate_succ, runsE]
  | x :: l, n, h => by
    have h1 := h x (by simp)
    have ih := runsE_pack l n (fun y hy => h y (by simp [hy]))
    have e : flatE (x :: l) ++ List.replicate n 0 = x.1 :: x.2 :: (flatE l ++ List.replicate n 0) := by simp [flatE]
    rw [e, runsE, if_pos h1, ih]
theorem ptsR_all : ∀ (l : List (Int × Int)) (acc : List Int), (∀ x, x ∈ l → badX x = false) → acc.length + (expE l).length ≤ 8 → ptsR l acc = (acc ++ expE l, 0)
  | [], acc, _, _ => by simp [ptsR, expE]
  | x :: l, acc, h, hl => by
    have e : expE (x :: l) = exp1 x ++ expE l := by simp [expE]
    rw [e, List.length_append] at hl
    rw [ptsR, if_neg (by simp [h x (by simp)]), if_neg (by omega), ptsR_all l _ (fun y hy => h y (by simp [hy])) (by rw [List.length_append]; omega), e, List.append_assoc]
theorem good_ofE {P : List Int} (hr : rightE P = 0) : ∀ x, x ∈ ofE P → badX x = false := by
  intro x hx
  have hl := right_len hr
  have hin := right_in hr
  have hok := (ofR_ok P.length P rfl hin).1 x (by simpa [ofE] using hx)
  have hexp := exp_ofE P.length P rfl hin
  have hmem : 0 < x.1 → x.1 + (x.2 - 1) ∈ P := by
    intro h0
    rw [← hexp, expE, List.mem_flatMap]
    refine ⟨x, hx, ?_⟩
    rw [exp1, List.mem_map]
    refine ⟨(x.2 - 1).toNat, by rw [List.mem_range]; omega, ?_⟩
    rw [if_neg (by omega)]
    omega
  have hb : 0 < x.1 → x.1 + x.2 ≤ 256 := fun h0 => by
    have := hin _ (hmem h0); omega
  unfold badX
  by_cases h0 : 0 < x.1
  · have := hb h0
    simp only [Bool.or_eq_false_iff, Bool.and_eq_false_iff, decide_eq_false_iff_not]
    omega
  · simp only [Bool.or_eq_false_iff, Bool.and_eq_false_iff, decide_eq_false_iff_not]
    omega
theorem ptsR_ofE {P : List Int} (hr : rightE P = 0) : ptsR (ofE P) [] = (P, 0) := by
  have hl := right_len hr
  have hexp := exp_ofE P.length P rfl (right_in hr)
  rw [ptsR_all _ _ (good_ofE hr) (by rw [hexp]; simpa using hl), hexp]
  rfl
theorem good_pack {P : List Int} (hr : rightE P = 0) : goodB (packL (ofE P)) ∧ PtsOf (packL (ofE P)) = (P, 0) := by
  have hok := (ofR_ok P.length P rfl (right_in hr)).1
  have h1 : runsE (packL (ofE P)) = ofE P := runsE_pack _ _ fun x hx => by
    have := hok x (by simpa [ofE] using hx); omega
  have h2 : PtsOf (packL (ofE P)) = (P, 0) := by rw [PtsOf, h1, ptsR_ofE hr]
  exact ⟨⟨packOf_len hr, by rw [h2], by rw [h2]⟩, h2⟩

theorem bytes_block {w : World} {g n cap : Nat} {ns : List Int} {t : TypeId} (hn : ns.length = n) (h : w.heap[g]? = some (.cells (byts ns) t (0, 0))) : BytesAt w (.slice (some ⟨g, 0, none⟩) n cap) ns := by
  subst hn
  refine ⟨by simp [u8s], Or.inr ⟨g, 0, cap, rfl, fun j x hx => ?_⟩⟩
  rw [Nat.zero_add, cell_of_row _ _ _ _ _ _ h]
  simpa [byts, u8s] using hx
theorem unpack_new (v : Value) (bs : List Int) (w : World) (h : BytesAt w v bs) (hl : bs.length ≤ 1000000) (hx : ∀ x, x ∈ bs → 0 ≤ x ∧ x ≤ 255) :
    Calls Try.prog 21 #[v] w (UnpResN bs w) := by
  by_cases hn : bs.length = 16
  · obtain ⟨_, ⟨h0, _⟩ | ⟨g, off, cap, rfl, hc⟩⟩ := h
    · omega
    · rw [hn]
      exact unpack_long bs g off cap w (fun j hj => hc j _ (u8s_get bs j hj)) hn hx
  · exact unpack_short v bs w h hn hl
theorem unpack_any (v : Value) (bs : List Int) (w : World) (h : BytesAt w v bs) (hl : bs.length ≤ 1000000) (hx : ∀ x, x ∈ bs → 0 ≤ x ∧ x ≤ 255) :
    Calls Try.prog 21 #[v] w (UnpRes bs w) := (unpack_new v bs w h hl hx).mono fun _ _ h => h.weak

end Go.Proofs.Ytneknlbmiofmlaa
