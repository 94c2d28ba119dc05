/- part's SortFunc. -/
import Derived.Test.YtdcplaonafmbjaaSortK
import Derived.Test.YtdcplaonafmbjaaShSortR
import Derived.Test.YtdcplaonafmbjaaLiftPart
namespace Go.Proofs.Ytdcplaonafmbjaa
open Go.RowKit Go.Sort Go.Shelf

theorem cmp_swo (h : Nat) : SWO (ltOf (cfK h)) where
  irrefl x := by unfold ltOf cfK; simp
  trans x y z h1 h2 := by unfold ltOf cfK at *; simp at *; omega
  ntrans x y z h1 h2 := by unfold ltOf cfK at *; simp at *; omega

set_option maxRecDepth 100000 in
theorem sort_said : SortSaid := by
  intro gh h base v O W hh hown hbox hl
  have hown0 := hown
  obtain ⟨h0, ⟨rfl, hn⟩ | ⟨g, cap, cur, rfl, hg, hhp, hc, hm, hs, ht⟩⟩ := hown
  · have hO : O = [] := List.length_eq_zero_iff.1 hn
    refine (AnyF.slices_SortFunc_none Try.laysSortR none 0 (.func (.func 75) #[] #[.pointer (some ⟨gh, 0, none⟩)]) W).mono fun e w' ⟨he, hw⟩ => ⟨he, O, List.Perm.refl _, ?_, ?_, ?_⟩
    · rw [hO]; exact List.Pairwise.nil
    · rw [hw]; exact hown0
    · rw [hw]; exact ⟨rfl, rfl, rfl, Nat.le_refl _, fun _ _ _ => rfl⟩
  · have hsz : O.toArray.size = O.length := by simp
    have hH : HoldsK encK 3 W g 0 O.toArray := holdsK_of encK_len hhp (by rw [hsz]; simpa using ht)
    have hne : gh ≠ g := ne_of_type hbox hhp (by decide)
    have hcmp : CmpLays Try.prog 75 #[.pointer (some ⟨gh, 0, none⟩)] encK 3 (cfK h) g 0 O.toArray.size W := fun m os dk _ x y => cmp_any gh h hh x y _ (by
      rw [cell?_sortWorldK_other encK 3 W g 0 m dk os ⟨gh, 0, none⟩ hne (heap_lt hbox)]
      exact cell_of_row _ _ _ _ _ _ hbox)
    have eg : ∀ args w, (callFunc 75 args).run Try.prog w = .ok (.enter 75 args) w := enters_of Try.func75 (by kernel_rfl) rfl
    have key := AnyQ.slices_SortFunc Try.laysSortR 3 Try.isAgg81 Try.sizeOf81 encK encK_len encK_one (cfK h) (cmp_swo h) 75 #[.pointer (some ⟨gh, 0, none⟩)] g 0 cap O.toArray W eg hcmp hH (heap_lt hhp) (by rw [hsz]; omega)
    rw [hsz] at key
    refine key.mono ?_
    rintro e w' ⟨he, d', n, os, hp, hso, rfl⟩
    have hd : d'.size = O.length := by rw [hp.1, hsz]
    have hdl : d'.toList.length = O.length := by simpa using hd
    have hcs : d'.size * 3 ≤ cur.size := by rw [hd, hs]; exact Nat.mul_le_mul_right _ hc
    obtain ⟨cur', k1, k2, k3⟩ := sortedK_block (enc := encK) (k := 3) encK_len (m := n) (os := os) hhp hcs
    refine ⟨he, d'.toList, ?_, ?_, ?_, sortedK_grown⟩
    · have := hp.2.2
      have e1 : (d'.extract 0 O.length).toList = d'.toList := by rw [← hd]; simp
      have e2 : (O.toArray.extract 0 O.length).toList = O := by simp
      rw [e1, e2] at this
      exact this
    · rw [List.pairwise_iff_getElem]
      intro i j hi hj hij
      rw [hdl] at hi hj
      have h1 := hso i j (Nat.zero_le _) hij hj
      rw [getElem!_pos d' i (by omega), getElem!_pos d' j (by omega)] at h1
      unfold ltOf cfK at h1
      simp at h1
      rw [Array.getElem_toList, Array.getElem_toList]
      omega
    · rw [hdl]
      refine ⟨by rw [flat_len encK_len, hdl], Or.inr ⟨g, cap, cur', rfl, hg, k1, hc, hm, by rw [k2]; exact hs, ?_⟩⟩
      rw [hd] at k3
      exact k3

end Go.Proofs.Ytdcplaonafmbjaa
