/- Sync of a cache, plainly. -/
import Derived.Test.YthkcnihmfeilgaaBufPl
namespace Go.Proofs.Ythkcnihmfeilgaa

def cleanA (M : List Ab) (n : Nat) : List Ab := M.map fun x => if x.1 = n then (x.1, x.2.1, false) else x
def syncS (S : List Ab × Dk) (n : Nat) : List Ab × Dk := (cleanA S.1 n, writeE S.2 n (view S.1 S.2 n))
def syncK (S : List Ab × Dk) (l : List Nat) : List Ab × Dk := l.foldl syncS S
def dirtyN (M : List Ab) : List Nat := (srtI (dirtyL M)).map Int.toNat
theorem syncK_snoc (S : List Ab × Dk) (l : List Nat) (n : Nat) : syncK S (l ++ [n]) = syncS (syncK S l) n := by
  unfold syncK; rw [List.foldl_append]; rfl
theorem keys_clean (M : List Ab) (n : Nat) : (cleanA M n).map (fun x => x.1) = M.map fun x => x.1 := by
  unfold cleanA
  rw [List.map_map]
  refine List.map_congr_left fun x _ => ?_
  show (if x.1 = n then (x.1, x.2.1, false) else x).1 = x.1
  split <;> rfl
theorem keys_sync (S : List Ab × Dk) (l : List Nat) : (syncK S l).1.map (fun x => x.1) = S.1.map fun x => x.1 := by
  induction l generalizing S with
  | nil => rfl
  | cons n l ih => show (syncK (syncS S n) l).1.map _ = _; rw [ih]; exact keys_clean S.1 n
theorem mem_clean {M : List Ab} {n : Nat} {x : Ab} (h : x ∈ cleanA M n) : ∃ y ∈ M, x.1 = y.1 ∧ x.2.1 = y.2.1 ∧ (x.1 = n → x.2.2 = false) ∧ (x.1 ≠ n → x = y) := by
  obtain ⟨y, hy, rfl⟩ := List.mem_map.1 h
  refine ⟨y, hy, ?_⟩
  split
  · exact ⟨rfl, rfl, fun _ => rfl, fun h => absurd ‹_› h⟩
  · exact ⟨rfl, rfl, fun h => absurd h ‹_›, fun _ => rfl⟩
theorem find_clean (M : List Ab) (n m : Nat) : ((cleanA M n).find? fun x => x.1 == m) = (M.find? fun x => x.1 == m).map fun x => if x.1 = n then (x.1, x.2.1, false) else x := by
  unfold cleanA
  rw [List.find?_map]
  have e : ((fun x : Ab => x.1 == m) ∘ fun x : Ab => if x.1 = n then (x.1, x.2.1, false) else x) = fun x : Ab => x.1 == m := by
    funext x
    show ((if x.1 = n then (x.1, x.2.1, false) else x).1 == m) = (x.1 == m)
    split <;> rfl
  rw [e]
theorem find_key {M : List Ab} (h : (M.map fun x => x.1).Nodup) {y : Ab} (hy : y ∈ M) : (M.find? fun x => x.1 == y.1) = some y := by
  induction M with
  | nil => cases hy
  | cons x M ih =>
    rw [List.map_cons, List.nodup_cons] at h
    rcases List.mem_cons.1 hy with rfl | hy
    · rw [List.find?_cons_of_pos (by simp)]
    · rw [List.find?_cons_of_neg (by
        have : x.1 ≠ y.1 := fun e => h.1 (List.mem_map.2 ⟨y, hy, e.symm⟩)
        simpa using this)]
      exact ih h.2 hy
theorem sync_inv {M : List Ab} {st : Dk} (h : Inv M st) (n : Nat) (hn : n < 16) :
    Inv (syncS (M, st) n).1 (syncS (M, st) n).2 ∧ ∀ m, m < 16 → view (syncS (M, st) n).1 (syncS (M, st) n).2 m = view M st m := by
  have hl : (view M st n).length = 64 := (see_inv h n hn).1
  show Inv (cleanA M n) (writeE st n (view M st n)) ∧ _
  rw [show (syncS (M, st) n) = (cleanA M n, writeE st n (view M st n)) from rfl]
  rw [writeE_on h.fu]
  refine ⟨⟨by rw [keys_clean]; exact h.nd, fun x hx hd => ?_, fun x hx => ?_, putS_len h.nl hn hl, rfl⟩, fun m hm => ?_⟩
  · obtain ⟨y, hy, e1, e2, e3, e4⟩ := mem_clean hx
    show x.2.1 = sec (putS st.N n (view M st n)) x.1
    by_cases e : x.1 = n
    · rw [e, sec_put_same h.nl hn hl, e2]
      have := find_key h.nd hy
      rw [← e1, e] at this
      exact (view_some this).symm
    · rw [sec_put_other h.nl hn (by rw [e1]; exact (h.ln y hy).2) hl e]
      have := e4 e
      subst this
      exact h.cl x hy hd
  · obtain ⟨y, hy, e1, e2, _, _⟩ := mem_clean hx
    rw [e1, e2]; exact h.ln y hy
  · show view (cleanA M n) { S := st.S, N := putS st.N n (view M st n), W := st.W ++ [(n, view M st n)], fu := -1 } m = _
    have hf := find_clean M n m
    cases hfm : M.find? fun x => x.1 == m with
    | some x =>
      rw [hfm] at hf
      rw [view_some hf, view_some hfm]
      show (if x.1 = n then (x.1, x.2.1, false) else x).2.1 = _
      split <;> rfl
    | none =>
      rw [hfm] at hf
      rw [view_none hf, view_none hfm]
      show sec (putS st.N n (view M st n)) m = _
      by_cases e : m = n
      · subst e
        rw [sec_put_same h.nl hn hl, view_none hfm]
      · rw [sec_put_other h.nl hn hm hl e]
theorem syncK_inv {M : List Ab} {st : Dk} (h : Inv M st) (l : List Nat) (hl : ∀ n ∈ l, n < 16) :
    Inv (syncK (M, st) l).1 (syncK (M, st) l).2 ∧ (∀ m, m < 16 → view (syncK (M, st) l).1 (syncK (M, st) l).2 m = view M st m) ∧
    ∀ x ∈ (syncK (M, st) l).1, x.2.2 = true → x.1 ∉ l ∧ ∃ y ∈ M, y.1 = x.1 ∧ y.2.2 = true := by
  induction l generalizing M st with
  | nil => exact ⟨h, fun _ _ => rfl, fun x hx hd => ⟨by simp, x, hx, rfl, hd⟩⟩
  | cons n l ih =>
    obtain ⟨h1, h2⟩ := sync_inv h n (hl n (by simp))
    obtain ⟨h3, h4, h5⟩ := ih h1 fun m hm => hl m (by simp [hm])
    refine ⟨h3, fun m hm => (h4 m hm).trans (h2 m hm), fun x hx hd => ?_⟩
    obtain ⟨h6, y, hy, e1, e2⟩ := h5 x hx hd
    obtain ⟨z, hz, f1, f2, f3, f4⟩ := mem_clean (M := M) (n := n) hy
    have hne : y.1 ≠ n := fun e => by rw [f3 e] at e2; cases e2
    have := f4 hne
    subst this
    exact ⟨by rw [List.mem_cons, not_or]; exact ⟨by rw [← e1]; exact hne, h6⟩, y, hz, e1, e2⟩
theorem dirtyN_mem {M : List Ab} {n : Nat} : n ∈ dirtyN M ↔ ∃ x ∈ M, x.1 = n ∧ x.2.2 = true := by
  unfold dirtyN
  rw [List.mem_map]
  constructor
  · rintro ⟨a, ha, rfl⟩
    have := (srtI_perm (dirtyL M)).mem_iff.1 ha
    unfold dirtyL at this
    obtain ⟨x, hx, rfl⟩ := List.mem_map.1 this
    obtain ⟨hx1, hx2⟩ := List.mem_filter.1 hx
    exact ⟨x, hx1, by simp, by simpa using hx2⟩
  · rintro ⟨x, hx, rfl, hd⟩
    refine ⟨(x.1 : Int), (srtI_perm (dirtyL M)).mem_iff.2 ?_, by simp⟩
    unfold dirtyL
    exact List.mem_map.2 ⟨x, List.mem_filter.2 ⟨hx, by simpa using hd⟩, rfl⟩
theorem dirtyN_eq (M : List Ab) : (dirtyN M).map (fun n : Nat => (n : Int)) = srtI (dirtyL M) := by
  unfold dirtyN
  rw [List.map_map]
  conv => rhs; rw [← List.map_id (srtI (dirtyL M))]
  refine List.map_congr_left fun a ha => ?_
  have := (srtI_perm (dirtyL M)).mem_iff.1 ha
  unfold dirtyL at this
  obtain ⟨x, _, rfl⟩ := List.mem_map.1 this
  simp
theorem dirtyN_len (M : List Ab) : (dirtyN M).length ≤ M.length := by
  unfold dirtyN
  rw [List.length_map, (srtI_perm _).length_eq]
  unfold dirtyL
  rw [List.length_map]
  exact List.length_filter_le _ _
theorem syncK_W (S : List Ab × Dk) (l : List Nat) : (syncK S l).2.W.length ≤ S.2.W.length + l.length := by
  induction l generalizing S with
  | nil => exact Nat.le_refl _
  | cons n l ih =>
    have h1 := ih (syncS S n)
    have h2 := writeE_W S.2 n (view S.1 S.2 n)
    show (syncK (syncS S n) l).2.W.length ≤ _
    rw [List.length_cons]
    have : (syncS S n).2 = writeE S.2 n (view S.1 S.2 n) := rfl
    rw [this] at h1
    omega

/-- All that is at hand is on the disk. -/
structure Cln (M : List Ab) (st : Dk) : Prop where
  inv : Inv M st
  all : ∀ x ∈ M, x.2.2 = false
/-- The state of the disk behind Sync and a crash. -/
def syncD (M : List Ab) (st : Dk) : Dk := crashE (flushE (syncK (M, st) (dirtyN M)).2) []
theorem syncD_eq {M : List Ab} {st : Dk} (h : Inv M st) : (syncD M st).N = (syncK (M, st) (dirtyN M)).2.N ∧ (syncD M st).fu = -1 ∧ (syncD M st).W = [] := by
  have hi := (syncK_inv h (dirtyN M) fun n hn => by
    obtain ⟨x, hx, rfl, _⟩ := dirtyN_mem.1 hn
    exact (h.ln x hx).2).1
  unfold syncD crashE
  refine ⟨?_, rfl, rfl⟩
  show crashS (flushE _).S (flushE _).W [] = _
  rw [crashS_none]
  unfold flushE
  rw [if_neg (by rw [hi.fu]; omega)]
theorem sync_cln {M : List Ab} {st : Dk} (h : Inv M st) : Cln (syncK (M, st) (dirtyN M)).1 (syncD M st) := by
  obtain ⟨h1, h2, h3⟩ := syncK_inv h (dirtyN M) fun n hn => by
    obtain ⟨x, hx, rfl, _⟩ := dirtyN_mem.1 hn
    exact (h.ln x hx).2
  obtain ⟨e1, e2, e3⟩ := syncD_eq h
  refine ⟨⟨h1.nd, by rw [e1]; exact h1.cl, h1.ln, by rw [e1]; exact h1.nl, e2⟩, fun x hx => ?_⟩
  cases hd : x.2.2 with
  | false => rfl
  | true =>
    obtain ⟨h4, y, hy, e4, e5⟩ := h3 x hx hd
    exact absurd (dirtyN_mem.2 ⟨y, hy, e4, e5⟩) h4
theorem see_cln {M : List Ab} {st : Dk} (h : Cln M st) (n : Nat) (hn : n < 16) : seeA M st n = (sec st.N n, false) := by
  obtain ⟨s1, s2⟩ := see_inv h.inv n hn
  have hd : (seeA M st n).2 = false := by
    unfold seeA
    cases hf : M.find? fun x => x.1 == n with
    | none => rfl
    | some x => exact h.all x (List.mem_of_find?_eq_some hf)
  exact Prod.ext (s2 hd) hd
theorem get_cln {M : List Ab} {st : Dk} (slots : Nat) (h : Cln M st) (n : Nat) (hn : n < 16) :
    Cln (useA slots M st (n, seeA M st n)).1 st ∧ (useA slots M st (n, seeA M st n)).2 = st := by
  have hr : (roomA slots (outA M n) st).2 = st ∧ (roomA slots (outA M n) st).1.Sublist M := by
    unfold roomA
    split
    · cases hl : (outA M n).getLast? with
      | none => exact ⟨rfl, outA_sub M n⟩
      | some x =>
        refine ⟨?_, (List.dropLast_sublist _).trans (outA_sub M n)⟩
        show (if x.2.2 then _ else st) = st
        rw [h.all x ((outA_sub M n).subset (List.mem_of_getLast? hl))]
        rfl
    · exact ⟨rfl, outA_sub M n⟩
  have h2 : (useA slots M st (n, seeA M st n)).2 = st := hr.1
  refine ⟨⟨?_, ?_⟩, h2⟩
  · have := (get_inv slots h.inv n hn).1
    rw [h2] at this
    exact this
  · intro x hx
    unfold useA at hx
    rcases List.mem_cons.1 hx with rfl | hx
    · rw [see_cln h n hn]
    · exact h.all x (hr.2.subset hx)
theorem cln_dirty {M : List Ab} {st : Dk} (h : Cln M st) : dirtyL M = [] := by
  unfold dirtyL
  rw [List.filter_eq_nil_iff.2]
  · rfl
  · intro x hx
    rw [h.all x hx]
    simp

end Go.Proofs.Ythkcnihmfeilgaa
