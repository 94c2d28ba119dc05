/- The laws of rows, plainly. -/
import Derived.Test.YtneknlbmiofmlaaQuota12
namespace Go.Proofs.Ytneknlbmiofmlaa

def Srt (l : List (Int × Int)) : Prop := (∀ x ∈ l, 0 ≤ x.1 ∧ x.1 ≤ 255 ∧ 0 ≤ x.2 ∧ x.2 ≤ 256) ∧ l.Pairwise (fun a b => a.1 < b.1)
theorem okQ_iff (l : List (Int × Int)) : okQ l = true ↔ Srt l := by
  constructor
  · intro h
    have hk := fun i hi => (okAt_iff l i).1 (okQ_at h i hi)
    constructor
    · intro x hx
      obtain ⟨i, hi, rfl⟩ := List.mem_iff_getElem.1 hx
      have := hk i hi
      rw [getD_at l i hi] at this
      omega
    · rw [List.pairwise_iff_getElem]
      intro i j hi hj hij
      induction j with
      | zero => omega
      | succ j ih =>
        have h2 := hk (j + 1) hj
        rw [getD_at l (j + 1) hj, Nat.add_sub_cancel, getD_at l j (by omega)] at h2
        by_cases e : i = j
        · subst e; omega
        · have := ih (by omega) (by omega); omega
  · rintro ⟨h1, h2⟩
    refine okQ_of fun i hi => (okAt_iff l i).2 ?_
    rw [getD_at l i hi]
    have := h1 _ (List.getElem_mem hi)
    refine ⟨by omega, by omega, by omega, by omega, ?_⟩
    by_cases e : i = 0
    · exact Or.inl e
    · right
      rw [getD_at l (i - 1) (by omega)]
      exact (List.pairwise_iff_getElem.1 h2) (i - 1) i (by omega) hi (by omega)

theorem othQ_none {l : List (Int × Int)} {u : Int} (h : ∀ x ∈ l, x.1 ≠ u) : othQ l u = l := by
  unfold othQ; rw [List.filter_eq_self]; intro x hx; have := h x hx; simpa using this
theorem othQ_mem {l : List (Int × Int)} {u : Int} {x : Int × Int} (h : x ∈ othQ l u) : x ∈ l ∧ x.1 ≠ u := by
  unfold othQ at h; rw [List.mem_filter] at h; exact ⟨h.1, by simpa using h.2⟩
theorem ofQ_split {l : List (Int × Int)} {u : Int} : ofQ l u ≠ -1 → ∃ A B, l = A ++ (u, ofQ l u) :: B := by
  induction l with
  | nil => intro h; exact absurd rfl h
  | cons x l ih =>
    intro h
    by_cases hx : x.1 = u
    · refine ⟨[], l, ?_⟩
      have : ofQ (x :: l) u = x.2 := by show (if x.1 = u then x.2 else _) = _; rw [if_pos hx]
      rw [this, ← hx]; rfl
    · have e : ofQ (x :: l) u = ofQ l u := by show (if x.1 = u then x.2 else _) = _; rw [if_neg hx]
      rw [e] at h ⊢
      obtain ⟨A, B, hl⟩ := ih h
      exact ⟨x :: A, B, by rw [List.cons_append, ← hl]⟩
theorem ofQ_none {l : List (Int × Int)} {u : Int} (h : ∀ x ∈ l, x.1 ≠ u) : ofQ l u = -1 := by
  induction l with
  | nil => rfl
  | cons x l ih =>
    show (if x.1 = u then x.2 else ofQ l u) = _
    rw [if_neg (h x (by simp))]
    exact ih fun y hy => h y (by simp [hy])
theorem ofQ_at {A B : List (Int × Int)} {u v : Int} (h : ∀ x ∈ A, x.1 ≠ u) : ofQ (A ++ (u, v) :: B) u = v := by
  induction A with
  | nil => show (if u = u then v else _) = _; rw [if_pos rfl]
  | cons x A ih =>
    show (if x.1 = u then x.2 else ofQ (A ++ (u, v) :: B) u) = _
    rw [if_neg (h x (by simp))]
    exact ih fun y hy => h y (by simp [hy])
theorem ofQ_skip {A B : List (Int × Int)} {u v o : Int} (h : u ≠ o) : ofQ (A ++ (u, v) :: B) o = ofQ (A ++ B) o := by
  induction A with
  | nil => show (if u = o then v else _) = _; rw [if_neg h]; rfl
  | cons x A ih =>
    show (if x.1 = o then x.2 else ofQ (A ++ (u, v) :: B) o) = if x.1 = o then x.2 else ofQ (A ++ B) o
    rw [ih]
theorem ofQ_oth {l : List (Int × Int)} {u o : Int} (h : u ≠ o) : ofQ (othQ l u) o = ofQ l o := by
  induction l with
  | nil => rfl
  | cons x l ih =>
    show _ = (if x.1 = o then x.2 else ofQ l o)
    unfold othQ at *
    rw [List.filter_cons]
    by_cases hx : x.1 = u
    · rw [if_neg (by simpa using hx), ih, if_neg (by rw [hx]; exact h)]
    · rw [if_pos (by simpa using hx)]
      show (if x.1 = o then x.2 else _) = _
      rw [ih]
theorem posQ_low (l : List (Int × Int)) (u : Int) : ∀ x ∈ l.take (posQ l u), x.1 < u := by
  induction l with
  | nil => intro x hx; simp at hx
  | cons y l ih =>
    intro x hx
    unfold posQ at hx
    split at hx
    · rw [List.take_succ_cons] at hx
      rcases List.mem_cons.1 hx with rfl | hx
      · assumption
      · exact ih x hx
    · simp at hx
theorem posQ_high (l : List (Int × Int)) (u : Int) (hs : l.Pairwise (fun a b => a.1 < b.1)) : ∀ x ∈ l.drop (posQ l u), u ≤ x.1 := by
  induction l with
  | nil => intro x hx; simp at hx
  | cons y l ih =>
    intro x hx
    rw [List.pairwise_cons] at hs
    unfold posQ at hx
    split at hx
    · rw [List.drop_succ_cons] at hx; exact ih hs.2 x hx
    · rw [List.drop_zero] at hx
      rcases List.mem_cons.1 hx with rfl | hx
      · omega
      · have := hs.1 x hx; omega
theorem posQ_app {A B : List (Int × Int)} {u : Int} (ha : ∀ x ∈ A, x.1 < u) (hb : ∀ x ∈ B, u < x.1) : posQ (A ++ B) u = A.length := by
  induction A with
  | nil =>
    cases B with
    | nil => rfl
    | cons y B => have := hb y (by simp); show (if y.1 < u then _ else 0) = 0; rw [if_neg (by omega)]
  | cons x A ih =>
    show (if x.1 < u then posQ (A ++ B) u + 1 else 0) = _
    rw [if_pos (ha x (by simp)), ih fun y hy => ha y (by simp [hy])]
    rfl
theorem srt_oth {l : List (Int × Int)} (u : Int) (h : Srt l) : Srt (othQ l u) := ⟨fun x hx => h.1 x (othQ_mem hx).1, h.2.filter _⟩
theorem srt_set {l : List (Int × Int)} {u lim : Int} (h : Srt l) (hu : 0 ≤ u) (hu1 : u ≤ 255) (hl : -1 ≤ lim) (hl1 : lim ≤ 256) : Srt (setQ l u lim) := by
  unfold setQ
  have ho := srt_oth u h
  split
  · exact ho
  · have hlow := posQ_low (othQ l u) u
    have hhigh := posQ_high (othQ l u) u ho.2
    have hne : ∀ x ∈ (othQ l u).drop (posQ (othQ l u) u), x.1 ≠ u := fun x hx => (othQ_mem (List.mem_of_mem_drop hx)).2
    refine ⟨fun x hx => ?_, ?_⟩
    · simp only [List.mem_append, List.mem_cons, List.not_mem_nil, or_false] at hx
      rcases hx with (hx | rfl) | hx
      · exact ho.1 x (List.mem_of_mem_take hx)
      · simp only; omega
      · exact ho.1 x (List.mem_of_mem_drop hx)
    · rw [List.pairwise_append, List.pairwise_append]
      refine ⟨⟨ho.2.sublist (List.take_sublist _ _), by simp, fun a ha b hb => ?_⟩, ho.2.sublist (List.drop_sublist _ _), fun a ha b hb => ?_⟩
      · simp at hb; subst hb; exact hlow a ha
      · have h1 := hhigh b hb
        have h2 := hne b hb
        simp only [List.mem_append, List.mem_cons, List.not_mem_nil, or_false] at ha
        rcases ha with ha | rfl
        · have := hlow a ha; omega
        · simp only; omega
theorem oth_set (l : List (Int × Int)) (u lim : Int) : othQ (setQ l u lim) u = othQ l u := by
  have hi : othQ (othQ l u) u = othQ l u := othQ_none fun x hx => (othQ_mem hx).2
  unfold setQ
  split
  · exact hi
  · have e : ∀ A B : List (Int × Int), othQ (A ++ [(u, lim)] ++ B) u = othQ (A ++ B) u := fun A B => by simp [othQ]
    rw [e, List.take_append_drop, hi]
theorem set_len {l : List (Int × Int)} {u lim : Int} (h : l.length ≤ 20) (hf : fullQ l u lim = false) : (setQ l u lim).length ≤ 20 := by
  have := othQ_le' l u
  unfold setQ
  split
  · omega
  · rename_i hl
    have : (othQ l u).length ≠ 20 := fun e => by unfold fullQ at hf; simp [e, hl] at hf
    have := posQ_le (othQ l u) u
    simp; omega
theorem set_of (l : List (Int × Int)) (u lim : Int) : ofQ (setQ l u lim) u = lim := by
  unfold setQ
  split
  · rename_i h; rw [h]; exact ofQ_none fun x hx => (othQ_mem hx).2
  · rw [List.append_assoc]
    exact ofQ_at fun x hx => (othQ_mem (List.mem_of_mem_take hx)).2
theorem set_other (l : List (Int × Int)) (u lim o : Int) (h : u ≠ o) : ofQ (setQ l u lim) o = ofQ l o := by
  unfold setQ
  split
  · exact ofQ_oth h
  · have e := ofQ_skip (A := (othQ l u).take (posQ (othQ l u) u)) (B := (othQ l u).drop (posQ (othQ l u) u)) (v := lim) h
    rw [List.take_append_drop, ofQ_oth h] at e
    rw [List.append_assoc]
    exact e
theorem of_lo {l : List (Int × Int)} (h : Srt l) (u : Int) : -1 ≤ ofQ l u ∧ ofQ l u ≤ 256 := by
  by_cases e : ofQ l u = -1
  · omega
  · obtain ⟨A, B, hl⟩ := ofQ_split e
    generalize ofQ l u = v at *
    have := h.1 (u, v) (by rw [hl]; simp)
    simp only at this
    omega
theorem no_row {l : List (Int × Int)} (h : Srt l) {u : Int} (e : ofQ l u = -1) : ∀ x ∈ l, x.1 ≠ u := by
  induction l with
  | nil => intro x hx; simp at hx
  | cons y l ih =>
    have e2 : (if y.1 = u then y.2 else ofQ l u) = -1 := e
    split at e2
    · have := h.1 y (by simp); omega
    · rename_i hy
      intro x hx
      rcases List.mem_cons.1 hx with rfl | hx
      · exact hy
      · exact ih ⟨fun z hz => h.1 z (by simp [hz]), (List.pairwise_cons.1 h.2).2⟩ e2 x hx
theorem set_back {l : List (Int × Int)} (h : Srt l) (u lim : Int) : setQ (setQ l u lim) u (ofQ l u) = l ∧ (l.length ≤ 20 → fullQ (setQ l u lim) u (ofQ l u) = false) := by
  by_cases e : ofQ l u = -1
  · constructor
    · rw [e]
      show (if (-1 : Int) = -1 then othQ (setQ l u lim) u else _) = l
      rw [if_pos rfl, oth_set, othQ_none (no_row h e)]
    · intro _; unfold fullQ; rw [e]; simp
  · obtain ⟨A, B, hl⟩ := ofQ_split e
    generalize hv : ofQ l u = v at *
    have hp := h.2
    rw [hl, List.pairwise_append, List.pairwise_cons] at hp
    have ha : ∀ x ∈ A, x.1 < u := fun x hx => hp.2.2 x hx (u, v) (by simp)
    have hb : ∀ x ∈ B, u < x.1 := fun x hx => hp.2.1.1 x hx
    have ho : othQ l u = A ++ B := by
      rw [hl]
      have : othQ (A ++ (u, v) :: B) u = othQ (A ++ B) u := by simp [othQ]
      rw [this]
      refine othQ_none fun x hx => ?_
      rcases List.mem_append.1 hx with hx | hx
      · have := ha x hx; omega
      · have := hb x hx; omega
    constructor
    · show (if v = -1 then othQ (setQ l u lim) u else (othQ (setQ l u lim) u).take (posQ (othQ (setQ l u lim) u) u) ++ [(u, v)] ++ (othQ (setQ l u lim) u).drop (posQ (othQ (setQ l u lim) u) u)) = l
      rw [if_neg e, oth_set, ho, posQ_app ha hb, List.take_left, List.drop_left, hl]
      simp
    · intro hlen
      unfold fullQ
      rw [oth_set, ho]
      have : l.length = A.length + B.length + 1 := by rw [hl]; simp; omega
      simp; omega
theorem full_of {l : List (Int × Int)} {u lim : Int} (hl : l.length ≤ 20) (hf : fullQ l u lim = true) : l.length = 20 ∧ ofQ l u = -1 := by
  unfold fullQ at hf
  have h20 : (othQ l u).length = 20 := by simp at hf; exact hf.2
  have hle := othQ_le' l u
  have hsl : othQ l u = l := by
    have hs : (othQ l u).Sublist l := List.filter_sublist
    exact hs.eq_of_length (by omega)
  refine ⟨by omega, ofQ_none fun x hx => ?_⟩
  rw [← hsl] at hx
  exact (othQ_mem hx).2

end Go.Proofs.Ytneknlbmiofmlaa
