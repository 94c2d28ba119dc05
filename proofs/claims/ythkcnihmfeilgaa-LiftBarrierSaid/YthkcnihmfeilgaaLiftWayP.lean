/- Once around, no more: plainly. -/
import Derived.Test.YthkcnihmfeilgaaLiftOps
import Derived.Test.YthkcnihmfeilgaaPutDel
namespace Go.Proofs.Ythkcnihmfeilgaa

theorem far_self (h : Nat) (_hh : h < 256) : farN h h = 0 := by unfold farN; omega
theorem far_step {h c n : Nat} (hh : h < 256) (hc : c < 256) (hn : n < 256) (hle : farN h c ≤ farN h n) : farN c n + farN h c = farN h n := by unfold farN at *; omega
theorem far_tri {h c n : Nat} (hh : h < 256) (hc : c < 256) (hn : n < 256) : farN h n ≤ farN h c + farN c n := by unfold farN; omega
theorem way_sorted {h : Nat} (hh : h < 256) (P : List Wr) : ∀ cur, cur < 256 → (∀ x ∈ P, x.1 < 256 ∧ farN h cur ≤ farN h x.1) → (P.Pairwise fun a b => farN h a.1 < farN h b.1) → wayF cur (emit P) + farN h cur = farN h (headL cur (emit P)) := by
  induction P with
  | nil => intro cur _ _ _; show 0 + _ = _; rw [Nat.zero_add]; rfl
  | cons x P ih =>
    intro cur hc hx hs
    rw [List.pairwise_cons] at hs
    obtain ⟨h1, h2⟩ := hx x (by simp)
    have h3 := ih x.1 h1 (fun y hy => ⟨(hx y (by simp [hy])).1, Nat.le_of_lt (hs.1 y hy)⟩) hs.2
    have h4 := far_step hh hc h1 h2
    show farN cur x.1 + wayF x.1 (emit P) + farN h cur = farN h (headL x.1 (emit P))
    omega
theorem way_any_ge {R : List Wr} : ∀ (h : Nat), h < 256 → (∀ x ∈ R, x.1 < 256) → ∀ x ∈ R, farN h x.1 ≤ wayF h (emit R) := by
  induction R with
  | nil => intro h _ _ x hx; simp at hx
  | cons y R ih =>
    intro h hh hR x hx
    have hy := hR y (by simp)
    show farN h x.1 ≤ farN h y.1 + wayF y.1 (emit R)
    rcases List.mem_cons.1 hx with rfl | hx
    · omega
    · have h1 := ih y.1 hy (fun z hz => hR z (by simp [hz])) x hx
      have h2 := far_tri hh hy (hR x (by simp [hx]))
      omega
theorem headL_mem (P : List Wr) (h : Nat) : P = [] ∨ ∃ x ∈ P, headL h (emit P) = x.1 := by
  induction P generalizing h with
  | nil => exact Or.inl rfl
  | cons y P ih =>
    refine Or.inr ?_
    rcases ih y.1 with rfl | ⟨x, hx, he⟩
    · exact ⟨y, by simp, rfl⟩
    · exact ⟨x, by simp [hx], he⟩
theorem way_part (R : List Wr) (h : Nat) (hh : h < 256) (hR : ∀ x ∈ R, x.1 < 256) : wayF h (emit (partF R h)) < 256 ∧ wayF h (emit (partF R h)) ≤ wayF h (emit R) := by
  have h1 := way_sorted hh (partF R h) h hh (fun x hx => ⟨((partF_mem R h hh x).1 hx).1, by rw [far_self h hh]; omega⟩) (partF_sorted R h hh)
  rw [far_self h hh, Nat.add_zero] at h1
  rw [h1]
  refine ⟨farN_lt _ _, ?_⟩
  rcases headL_mem (partF R h) h with e | ⟨x, hx, e⟩
  · rw [e]
    show farN h h ≤ _
    rw [far_self h hh]; omega
  · rw [e]
    exact way_any_ge h hh hR _ (lastD_mem R x.1 x.2 ((partF_mem R h hh x).1 hx).2)
/-- The writes of a law's list. -/
def wrP (l : List (Int × ByteArray)) : List Wr := l.map fun x => (pkN x.1 17, secS x.2)
theorem asks_noBar (l : List (Int × ByteArray)) : asksF (noBar l) = emit (wrP (noBar l)) := by
  unfold asksF emit wrP
  rw [List.map_map]
  refine List.map_congr_left fun x hx => ?_
  have h1 : isBar x = false := by
    unfold noBar at hx
    have := (List.mem_filter.1 hx).2
    simpa using this
  unfold askF
  unfold isBar at h1
  rw [if_neg (by simpa using h1)]
  rfl
theorem wrP_lt (l : List (Int × ByteArray)) : ∀ x ∈ wrP l, x.1 < 256 := by
  intro x hx
  obtain ⟨y, _, rfl⟩ := List.mem_map.1 hx
  exact Nat.lt_of_lt_of_le (pkN_lt y.1 17 (by omega) (by omega)) (by omega)
theorem noBar_len (l : List (Int × ByteArray)) : (noBar l).length ≤ l.length := List.length_filter_le _ _

end Go.Proofs.Ythkcnihmfeilgaa
