/- The runs of sectors are as few as may be, plainly. -/
import Derived.Test.YtneknlbmiofmlaaExtPts
namespace Go.Proofs.Ytneknlbmiofmlaa
open Go.RowKit

theorem ptsR_good : ∀ (l : List (Int × Int)) (acc : List Int), (ptsR l acc).2 = 0 → (∀ x, x ∈ l → badX x = false) ∧ (ptsR l acc).1 = acc ++ expE l
  | [], acc, _ => ⟨by simp, by simp [ptsR, expE]⟩
  | x :: l, acc, h => by
    unfold ptsR at h ⊢
    split at h
    · simp at h
    · rename_i hb
      rw [if_neg hb]
      split at h
      · simp at h
      · rename_i h8
        rw [if_neg h8]
        obtain ⟨h1, h2⟩ := ptsR_good l _ h
        refine ⟨fun y hy => ?_, by rw [h2]; simp [expE]⟩
        rcases List.mem_cons.1 hy with rfl | hy
        · simpa using hb
        · exact h1 y hy
theorem ptsR_fit : ∀ (l : List (Int × Int)) (acc : List Int), acc.length ≤ 8 → (∀ p, p ∈ acc → 0 ≤ p ∧ p ≤ 255) → (ptsR l acc).2 = 0 → (ptsR l acc).1.length ≤ 8 ∧ ∀ p, p ∈ (ptsR l acc).1 → 0 ≤ p ∧ p ≤ 255
  | [], acc, h1, h2, _ => ⟨h1, h2⟩
  | x :: r, acc, h1, h2, h3 => by
    unfold ptsR at h3 ⊢
    split at h3
    · simp at h3
    · rename_i hb
      rw [if_neg hb]
      split at h3
      · simp at h3
      · rename_i h8
        rw [if_neg h8]
        refine ptsR_fit r (acc ++ exp1 x) (by rw [List.length_append]; omega) (fun p hp => ?_) h3
        rcases List.mem_append.1 hp with hp | hp
        · exact h2 p hp
        · simp only [exp1, List.mem_map, List.mem_range] at hp
          obtain ⟨i, hi, rfl⟩ := hp
          simp [badX] at hb
          split <;> omega
theorem fit_right {l : List Int} (h1 : l.length ≤ 8) (h2 : ∀ p, p ∈ l → 0 ≤ p ∧ p ≤ 255) : rightE l = 0 := by
  unfold rightE
  rw [if_neg (by omega), if_neg]
  intro h
  obtain ⟨p, hp, hb⟩ := List.any_eq_true.1 h
  have := h2 p hp
  simp [badP] at hb
  omega

/-- Starts are no less than zero, lengths are at least one. -/
def okP (out : List (Int × Int)) : Prop := ∀ x, x ∈ out → 0 ≤ x.1 ∧ 1 ≤ x.2
theorem okP_step {out : List (Int × Int)} (h : okP out) (p : Int) (h0 : 0 ≤ p) : okP (stepR out p) := by
  intro x hx
  cases out with
  | nil =>
    simp only [stepR, List.mem_singleton] at hx
    subst hx; simp only; omega
  | cons y r =>
    simp only [stepR] at hx
    split at hx
    · rcases List.mem_cons.1 hx with rfl | hx
      · have := h y (by simp); simp only; omega
      · exact h x (by simp [hx])
    · rcases List.mem_cons.1 hx with rfl | hx
      · simp only; omega
      · exact h x hx
def fpt (x : Int × Int) (i : Nat) : Int := if x.1 = 0 then (0 : Int) else x.1 + (i : Int)
def Goes (out : List (Int × Int)) (p : Int) : Prop := ∃ h r, out = h :: r ∧ goesB h p = true
theorem goes_on {out : List (Int × Int)} (hk : okP out) (x : Int × Int) (hx : 0 ≤ x.1) (i : Nat) (h : Goes out (fpt x i)) : Goes (stepR out (fpt x i)) (fpt x (i + 1)) ∧ (stepR out (fpt x i)).length = out.length := by
  obtain ⟨y, r, rfl, hg⟩ := h
  have hy := hk y (by simp)
  rw [stepR_yes hg]
  refine ⟨⟨_, _, rfl, ?_⟩, rfl⟩
  unfold goesB fpt at *
  by_cases h0 : x.1 = 0
  · by_cases h1 : y.1 = 0 <;> simp [h0, h1] at hg ⊢
    omega
  · by_cases h1 : y.1 = 0 <;> simp [h0, h1] at hg ⊢ <;> omega
theorem goes_new {out : List (Int × Int)} (hk : okP out) (x : Int × Int) (hx : 0 ≤ x.1) : Goes (stepR out (fpt x 0)) (fpt x 1) ∧ (stepR out (fpt x 0)).length ≤ out.length + 1 := by
  by_cases h : Goes out (fpt x 0)
  · have := goes_on hk x hx 0 h
    exact ⟨this.1, by omega⟩
  · have e : stepR out (fpt x 0) = (fpt x 0, 1) :: out := by
      cases out with
      | nil => rfl
      | cons y r =>
        refine stepR_no ?_
        cases hb : goesB y (fpt x 0)
        · rfl
        · exact absurd ⟨y, r, rfl, hb⟩ h
    rw [e]
    refine ⟨⟨_, _, rfl, ?_⟩, by simp⟩
    unfold goesB fpt
    by_cases h0 : x.1 = 0 <;> simp [h0]
theorem fpt_nonneg (x : Int × Int) (hx : 0 ≤ x.1) (i : Nat) : 0 ≤ fpt x i := by unfold fpt; split <;> omega
theorem run_len (x : Int × Int) (hx : 0 ≤ x.1) : ∀ (n : Nat) (out : List (Int × Int)), okP out →
    okP (((List.range (n + 1)).map (fpt x)).foldl stepR out) ∧ Goes (((List.range (n + 1)).map (fpt x)).foldl stepR out) (fpt x (n + 1)) ∧ (((List.range (n + 1)).map (fpt x)).foldl stepR out).length ≤ out.length + 1
  | 0, out, hk => by
    have := goes_new hk x hx
    exact ⟨okP_step hk _ (fpt_nonneg x hx 0), this.1, this.2⟩
  | n + 1, out, hk => by
    obtain ⟨h1, h2, h3⟩ := run_len x hx n out hk
    rw [List.range_succ, List.map_append, List.foldl_append]
    have := goes_on h1 x hx (n + 1) h2
    exact ⟨okP_step h1 _ (fpt_nonneg x hx _), this.1, by simp only [List.map_cons, List.map_nil, List.foldl_cons, List.foldl_nil]; omega⟩
theorem exp1_len (x : Int × Int) (hb : badX x = false) (out : List (Int × Int)) (hk : okP out) : okP ((exp1 x).foldl stepR out) ∧ ((exp1 x).foldl stepR out).length ≤ out.length + 1 := by
  have hx : 0 ≤ x.1 ∧ 1 ≤ x.2 := by simp [badX] at hb; omega
  have e : exp1 x = (List.range (x.2.toNat - 1 + 1)).map (fpt x) := by
    rw [show x.2.toNat - 1 + 1 = x.2.toNat by omega]; rfl
  rw [e]
  obtain ⟨h1, _, h3⟩ := run_len x hx.1 (x.2.toNat - 1) out hk
  exact ⟨h1, h3⟩
theorem expE_len : ∀ (l : List (Int × Int)) (out : List (Int × Int)), (∀ x, x ∈ l → badX x = false) → okP out → ((expE l).foldl stepR out).length ≤ out.length + l.length
  | [], out, _, _ => by simp [expE]
  | x :: l, out, h, hk => by
    have e : expE (x :: l) = exp1 x ++ expE l := by simp [expE]
    rw [e, List.foldl_append]
    obtain ⟨h1, h2⟩ := exp1_len x (h x (by simp)) out hk
    have := expE_len l _ (fun y hy => h y (by simp [hy])) h1
    simp only [List.length_cons]
    omega
theorem few (l : List (Int × Int)) (h : ∀ x, x ∈ l → badX x = false) : (ofE (expE l)).length ≤ l.length := by
  have := expE_len l [] h (fun x hx => by simp at hx)
  simpa [ofE, ofR] using this

/-- No run goes on with the next, the runs being told the other way round. -/
def sep : List (Int × Int) → Prop
  | x :: y :: r => goesB y x.1 = false ∧ sep (y :: r)
  | _ => True
theorem sep_step {out : List (Int × Int)} (h : sep out) (p : Int) : sep (stepR out p) := by
  cases out with
  | nil => simp [stepR, sep]
  | cons x r =>
    cases hg : goesB x p
    · rw [stepR_no hg]; exact ⟨hg, h⟩
    · rw [stepR_yes hg]
      cases r with
      | nil => simp [sep]
      | cons y r => exact ⟨h.1, h.2⟩
theorem sep_all : ∀ (l : List Int) (out : List (Int × Int)), sep out → sep (l.foldl stepR out)
  | [], _, h => h
  | p :: l, out, h => sep_all l _ (sep_step h p)
theorem sep_at : ∀ (R : List (Int × Int)) (j : Nat) (h : j + 1 < R.length), sep R → goesB R[j + 1] R[j].1 = false
  | x :: y :: r, 0, _, hs => hs.1
  | x :: y :: r, j + 1, h, hs => sep_at (y :: r) j (by simpa using h) hs.2
  | [x], j, h, _ => by simp at h
  | [], j, h, _ => by simp at h
theorem sep_ofE (P : List Int) (j : Nat) (h : j + 1 < (ofE P).length) : goesB (ofE P)[j] (ofE P)[j + 1].1 = false := by
  have hl : (ofE P).length = (ofR P).length := by simp [ofE]
  have := sep_at (ofR P) ((ofR P).length - 1 - (j + 1)) (by omega) (sep_all P [] (by simp [sep]))
  have e1 : (ofE P)[j] = (ofR P)[(ofR P).length - 1 - (j + 1) + 1]'(by omega) := by
    simp only [ofE, List.getElem_reverse]
    congr 1
    omega
  have e2 : (ofE P)[j + 1] = (ofR P)[(ofR P).length - 1 - (j + 1)]'(by omega) := by
    simp only [ofE, List.getElem_reverse]
  rw [e1, e2]; exact this

end Go.Proofs.Ytneknlbmiofmlaa
