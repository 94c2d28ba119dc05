/- A file that is cut, plainly. -/
import Derived.Test.YtablomjaaifgfaaInode
import Derived.Test.YtablomjaaifgfaaSortI
namespace Go.Proofs.Ytablomjaaifgfaa

/-- Of a list that ends: what stands at one that is not 0. -/
def nzF (l : List Int) : List Int := l.filter fun p => !(p == 0)
theorem nzF_app (a b : List Int) : nzF (a ++ b) = nzF a ++ nzF b := by unfold nzF; exact List.filter_append a b
theorem nzF_len (l : List Int) : (nzF l).length ≤ l.length := List.length_filter_le _ _
theorem nzF_perm {a b : List Int} (h : a.Perm b) : (nzF a).Perm (nzF b) := h.filter _
theorem nzF_idem (l : List Int) : nzF (nzF l) = nzF l := by unfold nzF; rw [List.filter_filter]; simp
theorem nzF_zero (n : Nat) : nzF (List.replicate n 0) = [] := by
  unfold nzF
  rw [List.filter_eq_nil_iff]
  intro x hx
  rw [List.eq_of_mem_replicate hx]
  simp
def resP (P : List Int) (K : Nat) : List Int := P.take K ++ List.replicate (K - P.length) 0
def goneP (P : List Int) (K : Nat) : List Int := nzF (P.drop K).reverse
def tailP (P : List Int) (K : Nat) (s sz : Int) : Int := if sz < s ∧ sz % 64 ≠ 0 ∧ (resP P K).getD (K - 1) 0 ≠ 0 then sz % 64 else 0
def blkN (sz : Int) : Nat := (blocksE sz).toNat
theorem blkN_eq (sz : Int) : blocksE sz = (blkN sz : Int) := by
  unfold blkN blocksE
  split <;> omega
theorem blkN_le {sz : Int} (h : sz ≤ 512) : blkN sz ≤ 8 := by
  unfold blkN blocksE
  split <;> omega
theorem blkN_mono {a b : Int} (h : a ≤ b) : blkN a ≤ blkN b := by
  unfold blkN blocksE
  split <;> split <;> omega
theorem blkN_pos {a : Int} (h : 0 < a) : 0 < blkN a := by
  unfold blkN blocksE
  split <;> omega
theorem resP_len (P : List Int) (K : Nat) : (resP P K).length = K := by
  unfold resP
  rw [List.length_append, List.length_take, List.length_replicate]; omega
theorem resP_take {P : List Int} {K : Nat} (h : K ≤ P.length) : resP P K = P.take K := by
  unfold resP
  rw [show K - P.length = 0 by omega]
  simp
theorem goneP_len (P : List Int) (K : Nat) : (goneP P K).length ≤ P.length := by
  refine Nat.le_trans (nzF_len _) ?_
  rw [List.length_reverse, List.length_drop]; omega
/-- One round of the loop that takes the last one off. -/
theorem gone_step (P : List Int) (n : Nat) (hn : n < P.length) : (P.drop n).reverse = (P.drop (n + 1)).reverse ++ [P[n]] := by
  rw [List.drop_eq_getElem_cons hn, List.reverse_cons]
theorem right_parts {k m u g s l up : Int} {P : List Int} (h : rightN k m u g s l up P = 0) (hk : k ≠ 0) : (0 ≤ s ∧ s ≤ 512) ∧ rightE P = 0 ∧ P.length = blkN s ∧ ∀ (P' : List Int) (s' : Int), 0 ≤ s' → s' ≤ 512 → rightE P' = 0 → P'.length = blkN s' → rightN k m u g s' l up P' = 0 := by
  unfold rightN at h
  rw [if_neg hk] at h
  split at h
  · omega
  rename_i h1
  split at h
  · omega
  rename_i h2
  split at h
  · omega
  rename_i h3
  split at h
  · rename_i h4; exact absurd h h4
  rename_i h4
  split at h
  · omega
  rename_i h5
  refine ⟨by omega, by omega, ?_, fun P' s' a b hr hl => ?_⟩
  · have := blkN_eq s; omega
  · have := blkN_eq s'
    unfold rightN
    rw [if_neg hk, if_neg h1, if_neg (by omega), if_neg h3, if_neg (by omega), if_neg (by omega)]
theorem rightE_res {P : List Int} {K : Nat} (h : rightE P = 0) (hK : K ≤ 8) : rightE (resP P K) = 0 := by
  unfold rightE at h ⊢
  have hl := resP_len P K
  rw [if_neg (by omega)]
  split at h
  · omega
  split at h
  · omega
  rename_i _ h2
  rw [if_neg]
  intro h3
  rw [List.any_eq_true] at h3
  obtain ⟨x, hx, hb⟩ := h3
  unfold resP at hx
  rcases List.mem_append.1 hx with hx | hx
  · exact h2 (List.any_eq_true.2 ⟨x, List.mem_of_mem_take hx, hb⟩)
  · rw [List.eq_of_mem_replicate hx] at hb
    revert hb
    decide
theorem cut_right {k m u g s l up : Int} {P : List Int} (h : rightN k m u g s l up P = 0) (hk : k ≠ 0) {sz : Int} (h0 : 0 ≤ sz) (h1 : sz ≤ 512) : rightN k m u g sz l up (resP P (blkN sz)) = 0 := by
  obtain ⟨_, hr, _, hn⟩ := right_parts h hk
  exact hn _ _ h0 h1 (rightE_res hr (blkN_le h1)) (resP_len _ _)
theorem tailP_in (P : List Int) (K : Nat) (s sz : Int) : 0 ≤ tailP P K s sz ∧ tailP P K s sz < 64 ∧ (tailP P K s sz = 0 ∨ (tailP P K s sz = sz % 64 ∧ sz < s)) := by
  unfold tailP
  split
  · rename_i h; exact ⟨by omega, by omega, Or.inr ⟨rfl, h.1⟩⟩
  · exact ⟨by omega, by omega, Or.inl rfl⟩
theorem srtI_perm_eq {a b : List Int} (h : a.Perm b) : srtI a = srtI b :=
  List.Perm.eq_of_pairwise (fun x y _ _ h1 h2 => by omega) (srtI_sorted a) (srtI_sorted b) (((srtI_perm a).trans h).trans (srtI_perm b).symm)
/-- None is lost. -/
theorem cut_all (P : List Int) (K : Nat) : srtI (nzF (srtI (goneP P K) ++ resP P K)) = srtI (nzF P) := by
  refine srtI_perm_eq ?_
  rw [nzF_app]
  have h1 : (nzF (srtI (goneP P K))).Perm (nzF (P.drop K)) := by
    refine (nzF_perm (srtI_perm _)).trans ?_
    unfold goneP
    rw [nzF_idem]
    exact nzF_perm (List.reverse_perm _)
  have h2 : nzF (resP P K) = nzF (P.take K) := by
    unfold resP
    rw [nzF_app, nzF_zero, List.append_nil]
  rw [h2]
  refine (h1.append_right _).trans ?_
  refine List.perm_append_comm.trans ?_
  rw [← nzF_app, List.take_append_drop]
/-- In two steps. -/
theorem cut_twice (P : List Int) (K J : Nat) (hJ : J ≤ K) (hK : K ≤ P.length) : resP (resP P K) J = resP P J ∧ srtI (srtI (goneP P K) ++ srtI (goneP (resP P K) J)) = srtI (goneP P J) := by
  rw [resP_take hK]
  constructor
  · rw [resP_take (by rw [List.length_take]; omega), resP_take (by omega), List.take_take, Nat.min_eq_left hJ]
  · refine srtI_perm_eq ?_
    refine ((srtI_perm _).append (srtI_perm _)).trans ?_
    unfold goneP
    rw [← nzF_app, ← List.reverse_append]
    refine nzF_perm ?_
    have e : P.drop J = (P.take K).drop J ++ P.drop K := by
      conv => lhs; rw [← List.take_append_drop K P]
      rw [List.drop_append_of_le_length (by rw [List.length_take]; omega)]
    rw [e]

end Go.Proofs.Ytablomjaaifgfaa
