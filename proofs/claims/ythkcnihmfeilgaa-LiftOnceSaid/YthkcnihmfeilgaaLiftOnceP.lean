/- LiftOnce, plainly: the sectors of an order are those that were asked, each once. -/
import Derived.Test.YthkcnihmfeilgaaLiftWayP
import Derived.Test.YthkcnihmfeilgaaSortI
namespace Go.Proofs.Ythkcnihmfeilgaa

def secsI (L : List Rb) : List Int := L.map fun x => (x.1 : Int)
def wantF (l : List (Int × ByteArray)) : List Int := l.foldl (fun a x => if a.contains (pkN x.1 17 : Int) then a else a ++ [(pkN x.1 17 : Int)]) []
theorem wantF_snoc (l : List (Int × ByteArray)) (x : Int × ByteArray) : wantF (l ++ [x]) = if (wantF l).contains (pkN x.1 17 : Int) then wantF l else wantF l ++ [(pkN x.1 17 : Int)] := by unfold wantF; rw [List.foldl_append]; rfl
theorem wantF_take (l : List (Int × ByteArray)) : ∀ j, j ≤ l.length → (wantF (l.take j)).Nodup ∧ (wantF (l.take j)).length ≤ j ∧ ∀ n, n ∈ wantF (l.take j) ↔ ∃ x ∈ l.take j, (pkN x.1 17 : Int) = n := by
  intro j
  induction j with
  | zero => intro _; simp [wantF]
  | succ j ih =>
    intro hj
    have hjl : j < l.length := by omega
    obtain ⟨h1, h2, h3⟩ := ih (by omega)
    rw [← List.take_append_getElem hjl, wantF_snoc]
    by_cases e : (wantF (l.take j)).contains (pkN l[j].1 17 : Int) = true
    · rw [if_pos e]
      refine ⟨h1, by omega, fun n => ?_⟩
      rw [h3]
      constructor
      · rintro ⟨x, hx, h⟩; exact ⟨x, List.mem_append_left _ hx, h⟩
      · rintro ⟨x, hx, h⟩
        rcases List.mem_append.1 hx with hx | hx
        · exact ⟨x, hx, h⟩
        · rw [List.mem_singleton] at hx
          subst hx
          rw [← h, ← h3]
          simpa using e
    · rw [if_neg e]
      refine ⟨?_, by rw [List.length_append]; simp; omega, fun n => ?_⟩
      · rw [List.nodup_append]
        refine ⟨h1, by simp, fun a ha b hb => ?_⟩
        rw [List.mem_singleton] at hb
        subst hb
        intro h
        subst h
        exact e (by simpa using ha)
      · rw [List.mem_append, h3, List.mem_singleton]
        constructor
        · rintro (⟨x, hx, h⟩ | h)
          · exact ⟨x, List.mem_append_left _ hx, h⟩
          · exact ⟨l[j], List.mem_append_right _ (List.mem_singleton.2 rfl), h.symm⟩
        · rintro ⟨x, hx, h⟩
          rcases List.mem_append.1 hx with hx | hx
          · exact Or.inl ⟨x, hx, h⟩
          · rw [List.mem_singleton] at hx
            subst hx
            exact Or.inr h.symm
theorem srtI_eq {a b : List Int} (h : a.Perm b) : srtI a = srtI b :=
  List.Perm.eq_of_pairwise (fun x y _ _ h1 h2 => by omega) (srtI_sorted a) (srtI_sorted b) (((srtI_perm a).trans h).trans (srtI_perm b).symm)
theorem once_eq (l : List (Int × ByteArray)) (h : Nat) (hh : h < 256) : srtI (secsI (emit (partF (wrP l) h))) = srtI (wantF l) := by
  refine srtI_eq ?_
  have hw := wantF_take l l.length (Nat.le_refl _)
  rw [List.take_length] at hw
  have hn := partF_nodup (wrP l) h hh
  have e : secsI (emit (partF (wrP l) h)) = ((partF (wrP l) h).map fun x => x.1).map fun n : Nat => (n : Int) := by
    unfold secsI emit; rw [List.map_map, List.map_map]; rfl
  rw [e]
  refine (List.perm_ext_iff_of_nodup ?_ hw.1).2 fun n => ?_
  · rw [List.Nodup, List.pairwise_map]
    exact List.Pairwise.imp (fun hab h => hab (by omega)) hn
  · rw [hw.2.2]
    constructor
    · intro hm
      obtain ⟨m, hm2, rfl⟩ := List.mem_map.1 hm
      obtain ⟨y, hy, rfl⟩ := List.mem_map.1 hm2
      have h1 := lastD_mem (wrP l) y.1 y.2 ((partF_mem _ h hh y).1 hy).2
      obtain ⟨x, hx, e⟩ := List.mem_map.1 h1
      exact ⟨x, hx, by rw [← congrArg (fun z : Wr => z.1) e]⟩
    · rintro ⟨x, hx, rfl⟩
      refine List.mem_map.2 ⟨pkN x.1 17, List.mem_map.2 ?_, rfl⟩
      have h0 : (pkN x.1 17, secS x.2) ∈ wrP l := List.mem_map.2 ⟨x, hx, rfl⟩
      cases hl : lastD (wrP l) (pkN x.1 17) with
      | none => exact absurd rfl ((lastD_none _ _).1 hl _ h0)
      | some D => exact ⟨(pkN x.1 17, D), (partF_mem _ h hh _).2 ⟨wrP_lt l (pkN x.1 17, secS x.2) h0, hl⟩, rfl⟩

end Go.Proofs.Ythkcnihmfeilgaa
