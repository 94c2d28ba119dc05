/- The laws of a cache, plainly. -/
import Derived.Test.YthkcnihmfeilgaaBufUsed
namespace Go.Proofs.Ythkcnihmfeilgaa

structure Inv (M : List Ab) (st : Dk) : Prop where
  nd : (M.map fun x => x.1).Nodup
  cl : ∀ x ∈ M, x.2.2 = false → x.2.1 = sec st.N x.1
  ln : ∀ x ∈ M, x.2.1.length = 64 ∧ x.1 < 16
  nl : st.N.length = 64 * 16
  fu : st.fu = -1

/-- What a sector has, as it is told. -/
def view (M : List Ab) (st : Dk) (n : Nat) : List Int := (seeA M st n).1
theorem view_some {M : List Ab} {st : Dk} {n : Nat} {x : Ab} (h : M.find? (fun x => x.1 == n) = some x) : view M st n = x.2.1 := by unfold view seeA; rw [h]
theorem view_none {M : List Ab} {st : Dk} {n : Nat} (h : M.find? (fun x => x.1 == n) = none) : view M st n = sec st.N n := by unfold view seeA; rw [h]

theorem outA_find {M : List Ab} {m n : Nat} (h : n ≠ m) : (outA M m).find? (fun x => x.1 == n) = M.find? fun x => x.1 == n := by
  unfold outA
  induction M with
  | nil => rfl
  | cons x M ih =>
    rw [List.eraseP_cons]
    cases hx : (x.1 == m) with
    | true =>
      have : x.1 = m := by simpa using hx
      show List.find? _ M = _
      rw [List.find?_cons_of_neg (by simp; omega)]
    | false =>
      show List.find? _ (x :: List.eraseP (fun x => x.fst == m) M) = _
      cases hn : (x.1 == n) with
      | true => rw [List.find?_cons_of_pos (by exact hn), List.find?_cons_of_pos (by exact hn)]
      | false => rw [List.find?_cons_of_neg (by simp [hn]), List.find?_cons_of_neg (by simp [hn]), ih]
theorem outA_sub (M : List Ab) (m : Nat) : (outA M m).Sublist M := List.eraseP_sublist
theorem outA_ne {M : List Ab} {m : Nat} (h : (M.map fun x => x.1).Nodup) : ∀ x ∈ outA M m, x.1 ≠ m := by
  unfold outA
  induction M with
  | nil => intro x hx; simp at hx
  | cons y M ih =>
    intro x hx
    rw [List.map_cons, List.nodup_cons] at h
    rw [List.eraseP_cons] at hx
    cases hy : (y.1 == m) with
    | true =>
      have : y.1 = m := by simpa using hy
      rw [hy] at hx
      replace hx : x ∈ M := hx
      intro e
      exact h.1 (List.mem_map.2 ⟨x, hx, by omega⟩)
    | false =>
      rw [hy] at hx
      replace hx : x ∈ y :: List.eraseP (fun x => x.fst == m) M := hx
      rcases List.mem_cons.1 hx with rfl | hx
      · simpa using hy
      · exact ih h.2 x hx
theorem Inv.sub {M M' : List Ab} {st : Dk} (h : Inv M st) (hs : M'.Sublist M) : Inv M' st :=
  ⟨h.nd.sublist (hs.map _), fun x hx => h.cl x (hs.subset hx), fun x hx => h.ln x (hs.subset hx), h.nl, h.fu⟩
theorem writeE_on {st : Dk} (h : st.fu = -1) (n : Nat) (D : List Int) : writeE st n D = { S := st.S, N := putS st.N n D, W := st.W ++ [(n, D)], fu := -1 } := by
  unfold writeE
  rw [if_neg (by rw [h]; omega), h]
  rfl
theorem nodup_last {M : List Ab} {x : Ab} (h : ((M ++ [x]).map fun x => x.1).Nodup) : ∀ y ∈ M, y.1 ≠ x.1 := by
  rw [List.map_append, List.nodup_append] at h
  intro y hy
  exact h.2.2 y.1 (List.mem_map.2 ⟨y, hy, rfl⟩) x.1 (by simp)
theorem find_last {M : List Ab} {x : Ab} {m : Nat} (h : ∀ y ∈ M, y.1 ≠ x.1) : (M ++ [x]).find? (fun y => y.1 == m) = if m = x.1 then some x else M.find? fun y => y.1 == m := by
  rw [List.find?_append]
  split
  · rename_i e
    have : M.find? (fun y => y.1 == m) = none := by
      rw [List.find?_eq_none]
      intro y hy
      have := h y hy
      simp; omega
    rw [this, List.find?_cons_of_pos (by simp; omega)]; rfl
  · rename_i e
    rw [List.find?_cons_of_neg (by simp; omega)]
    cases M.find? fun y => y.1 == m <;> rfl

theorem room_inv {M : List Ab} {st : Dk} (slots : Nat) (h : Inv M st) : Inv (roomA slots M st).1 (roomA slots M st).2 ∧ (∀ m, m < 16 → view (roomA slots M st).1 (roomA slots M st).2 m = view M st m) ∧ (roomA slots M st).1.Sublist M ∧
    ∀ m, m < 16 → (∀ y ∈ M, y.1 ≠ m) → sec (roomA slots M st).2.N m = sec st.N m := by
  unfold roomA
  split
  · cases hl : M.getLast? with
    | none => exact ⟨h, fun _ _ => rfl, List.Sublist.refl _, fun _ _ _ => rfl⟩
    | some x =>
      have hM : M = M.dropLast ++ [x] := by
        obtain ⟨ys, hys⟩ := List.getLast?_eq_some_iff.1 hl
        rw [hys]; simp
      have hx : x ∈ M := by rw [hM]; simp
      have hnl := nodup_last (by rw [← hM]; exact h.nd)
      have hsub : M.dropLast.Sublist M := List.dropLast_sublist _
      have hI := h.sub hsub
      have hxl := h.ln x hx
      have hf : ∀ m, M.find? (fun y => y.1 == m) = if m = x.1 then some x else M.dropLast.find? fun y => y.1 == m := fun m => by
        conv => lhs; rw [hM]
        exact find_last hnl
      simp only
      cases hd : x.2.2 with
      | false =>
        refine ⟨hI, fun m hm => ?_, hsub, fun _ _ _ => rfl⟩
        by_cases e : m = x.1
        · have h1 := hf m
          rw [if_pos e] at h1
          have h2 : M.dropLast.find? (fun y => y.1 == m) = none := by
            rw [List.find?_eq_none]
            intro y hy
            have := hnl y hy
            simp; omega
          rw [view_some h1]
          show view M.dropLast st m = _
          rw [view_none h2, e]
          exact (h.cl x hx hd).symm
        · have h1 := hf m
          rw [if_neg e] at h1
          show view M.dropLast st m = _
          unfold view seeA
          rw [h1]
      | true =>
        rw [if_pos rfl, writeE_on h.fu]
        have hsec : ∀ m, m < 16 → m ≠ x.1 → sec (putS st.N x.1 x.2.1) m = sec st.N m := fun m hm hne => sec_put_other h.nl hxl.2 hm hxl.1 hne
        refine ⟨⟨hI.nd, fun y hy hyd => ?_, hI.ln, putS_len h.nl hxl.2 hxl.1, rfl⟩, fun m hm => ?_, hsub, fun m hm hne => hsec m hm (fun e => hne x hx e.symm)⟩
        · rw [hI.cl y hy hyd]
          exact (hsec y.1 (hI.ln y hy).2 (hnl y hy)).symm
        · by_cases e : m = x.1
          · have h1 := hf m
            rw [if_pos e] at h1
            have h2 : M.dropLast.find? (fun y => y.1 == m) = none := by
              rw [List.find?_eq_none]
              intro y hy
              have := hnl y hy
              simp; omega
            rw [view_some h1, view_none h2, e]
            exact sec_put_same h.nl hxl.2 hxl.1
          · have h1 := hf m
            rw [if_neg e] at h1
            cases h3 : M.dropLast.find? (fun y => y.1 == m) with
            | none => rw [view_none h3, view_none (h1.trans h3)]; exact hsec m hm e
            | some y => rw [view_some h3, view_some (h1.trans h3)]
  · exact ⟨h, fun _ _ => rfl, List.Sublist.refl _, fun _ _ _ => rfl⟩

theorem use_inv {M : List Ab} {st : Dk} (slots : Nat) (h : Inv M st) (n : Nat) (hn : n < 16) (D : List Int) (b : Bool) (hD : D.length = 64) (hb : b = false → D = sec st.N n) :
    Inv (useA slots M st (n, D, b)).1 (useA slots M st (n, D, b)).2 ∧ view (useA slots M st (n, D, b)).1 (useA slots M st (n, D, b)).2 n = D ∧ ∀ m, m < 16 → m ≠ n → view (useA slots M st (n, D, b)).1 (useA slots M st (n, D, b)).2 m = view M st m := by
  obtain ⟨h1, h2, h3, h4⟩ := room_inv slots (h.sub (outA_sub M n))
  have hne := outA_ne (m := n) h.nd
  unfold useA
  refine ⟨⟨?_, ?_, ?_, h1.nl, h1.fu⟩, view_some (List.find?_cons_of_pos (by simp)), fun m hm hmn => ?_⟩
  · rw [List.map_cons, List.nodup_cons]
    refine ⟨fun hc => ?_, h1.nd⟩
    obtain ⟨x, hx, e⟩ := List.mem_map.1 hc
    exact hne x (h3.subset hx) e
  · intro x hx hxd
    rcases List.mem_cons.1 hx with rfl | hx
    · show D = _
      rw [hb hxd]
      exact (h4 n hn hne).symm
    · exact h1.cl x hx hxd
  · intro x hx
    rcases List.mem_cons.1 hx with rfl | hx
    · exact ⟨hD, hn⟩
    · exact h1.ln x hx
  · have e1 : view ((n, D, b) :: (roomA slots (outA M n) st).1) (roomA slots (outA M n) st).2 m = view (roomA slots (outA M n) st).1 (roomA slots (outA M n) st).2 m := by
      unfold view seeA
      rw [List.find?_cons_of_neg (by simp; omega)]
    rw [e1, h2 m hm]
    unfold view seeA
    rw [outA_find hmn]

theorem see_inv {M : List Ab} {st : Dk} (h : Inv M st) (n : Nat) (hn : n < 16) : (seeA M st n).1.length = 64 ∧ ((seeA M st n).2 = false → (seeA M st n).1 = sec st.N n) := by
  unfold seeA
  cases hf : M.find? fun x => x.1 == n with
  | none => exact ⟨sec_len h.nl hn, fun _ => rfl⟩
  | some x =>
    have hx := List.mem_of_find?_eq_some hf
    have hxn : x.1 = n := by have := List.find?_some hf; simpa using this
    exact ⟨(h.ln x hx).1, fun hd => by rw [← hxn]; exact h.cl x hx hd⟩
theorem get_inv {M : List Ab} {st : Dk} (slots : Nat) (h : Inv M st) (n : Nat) (hn : n < 16) :
    Inv (useA slots M st (n, seeA M st n)).1 (useA slots M st (n, seeA M st n)).2 ∧ ∀ m, m < 16 → view (useA slots M st (n, seeA M st n)).1 (useA slots M st (n, seeA M st n)).2 m = view M st m := by
  obtain ⟨s1, s2⟩ := see_inv h n hn
  obtain ⟨h1, h2, h3⟩ := use_inv slots h n hn (seeA M st n).1 (seeA M st n).2 s1 s2
  refine ⟨h1, fun m hm => ?_⟩
  by_cases e : m = n
  · subst e; exact h2
  · exact h3 m hm e

/-- What was put last. -/
def lastU (l : List (Int × ByteArray × Bool)) (n : Nat) : List Int := l.foldl (fun r x => if x.2.2 && pkN x.1 16 == n then secS x.2.1 else r) (secS { data := #[] })
theorem lastU_snoc (l : List (Int × ByteArray × Bool)) (x : Int × ByteArray × Bool) (n : Nat) : lastU (l ++ [x]) n = if x.2.2 && pkN x.1 16 == n then secS x.2.1 else lastU l n := by
  unfold lastU; rw [List.foldl_append]; rfl
theorem fresh_sec (n : Nat) (hn : n < 16) : sec (freshE 16).N n = secS { data := #[] } := by
  unfold sec freshE
  simp only [List.drop_replicate, List.take_replicate]
  rw [show min 64 (64 * 16 - 64 * n) = 64 by omega]
  rfl
theorem step_inv {S : List Ab × Dk} (slots : Nat) (h : Inv S.1 S.2) (x : Int × ByteArray × Bool) : Inv (stepU slots S x).1 (stepU slots S x).2 ∧ ∀ m, m < 16 → view (stepU slots S x).1 (stepU slots S x).2 m = if x.2.2 && pkN x.1 16 == m then secS x.2.1 else view S.1 S.2 m := by
  have hn : pkN x.1 16 < 16 := pkN_lt x.1 16 (by omega) (by omega)
  unfold stepU
  cases hb : x.2.2 with
  | true =>
    rw [if_pos rfl]
    obtain ⟨h1, h2, h3⟩ := use_inv slots h (pkN x.1 16) hn (secS x.2.1) true (secS_len _) (fun e => by cases e)
    refine ⟨h1, fun m hm => ?_⟩
    by_cases e : pkN x.1 16 = m
    · subst e; rw [if_pos (by simp)]; exact h2
    · rw [if_neg (by simpa using e)]; exact h3 m hm (Ne.symm e)
  | false =>
    rw [if_neg (by simp)]
    obtain ⟨h1, h2⟩ := get_inv slots h (pkN x.1 16) hn
    exact ⟨h1, fun m hm => by rw [if_neg (by simp)]; exact h2 m hm⟩
theorem fold_inv (slots : Nat) (l : List (Int × ByteArray × Bool)) : ∀ k, Inv (foldU slots (l.take k)).1 (foldU slots (l.take k)).2 ∧ ∀ m, m < 16 → view (foldU slots (l.take k)).1 (foldU slots (l.take k)).2 m = lastU (l.take k) m
  | 0 => by
    rw [List.take_zero]
    exact ⟨⟨by simp [foldU], fun x hx => by simp [foldU] at hx, fun x hx => by simp [foldU] at hx, List.length_replicate, rfl⟩, fun m hm => fresh_sec m hm⟩
  | k + 1 => by
    by_cases hk : k < l.length
    · obtain ⟨h1, h2⟩ := fold_inv slots l k
      rw [← List.take_append_getElem hk, foldU_snoc]
      obtain ⟨h3, h4⟩ := step_inv slots h1 l[k]
      refine ⟨h3, fun m hm => ?_⟩
      rw [h4 m hm, lastU_snoc, h2 m hm]
    · have := fold_inv slots l k
      rw [List.take_of_length_le (by omega)] at this ⊢
      exact this

end Go.Proofs.Ythkcnihmfeilgaa
