/- DirBack: for all entries and bytes the statement returns true and leaves its arguments alone; the card: the two tables of the library's that its code names are as the program's text lays them. No other condition. -/
import Derived.Test.YtheiaebmemcbhaaDoorDirBackLaw
import Derived.Test.YtheiaebmemcbhaaDoorDirOpen
import Derived.Test.YtheiaebmemcbhaaDoorOwn
import Derived.Test.YtheiaebmemcbhaaDoorCards
import Derived.Test.YtheiaebmemcbhaaDoorTie
import Derived.OpenShut
import Derived.LaidMore
import Derived.Lay
import Derived.SevenTiedAt
import Derived.Stop.Joined
import Derived.ChangeMaps5
namespace Go.Proofs.YtheiaebmemcbhaaDoor
open Go.ChangeShapes Go.WideShapes Go.ChangeAt Go.RowKit Go.ChangeMaps

set_option maxRecDepth 100000 in
theorem dirBack_lifted (os : Os) (started : os.Started) (H : Type) (enc' : TypeId × Value → H) :
    ReturnsInHanded {} Tryd.checked os 6 .any (fun w args => (Rows.dirBackSpec.pre enc' Tryd.prog Tryd.f6 Rows.dirBackRow.domain false w args ∧ laidMetH Tryd.prog Rows.dirBackRow.laid w) ∧ sizedMet enc' Tryd.prog Tryd.f6 (OpenSpec.ofChange Rows.dirBackSpec) false w args) (Rows.dirBackSpec.post enc' Tryd.prog Tryd.f6 false true false false) := by
  refine returnsInHanded_of_change_and (C := Tryd.checked) (X := fun w _ => laidMetH Tryd.prog Rows.dirBackRow.laid w) (fun _ _ _ hh h => h.of_heap hh) Tryd.own started (by kernel_rfl) Tryd.func6
    (ChangeSpec.witness_shaped (enc := enc') (C := Tryd.checked) (os := os) (X := fun w _ => laidMetH Tryd.prog Rows.dirBackRow.laid w) false (World.laidAll Tryd.prog os Rows.dirBackRow.laid) #[(.slice none 0 0), (.slice none 0 0)] 8 (World.laidAll_os _ _ _)
      (World.shaped_of_ZipB (by kernel_rfl) (by kernel_rfl)) (by kernel_rfl) (by kernel_rfl) (by kernel_rfl)
      (by rw [MakeChecks.laidMetH_plain _ _ _ (by kernel_rfl)]; exact laidMet_laidAll _ (by kernel_rfl) (by kernel_rfl))) ?_
  intro W base args ds gs before hval0 hW _ _ _ _
  have hval : ∀ (j : Nat) t v, Tryd.f6.params[j]? = some t → args[j]? = some v → Value.okWide Tryd.prog W .any base t v := hval0
  have hW' := hW
  obtain ⟨p, q, hA0, hV, rfl, _, _⟩ := hW
  have hA : DataW.TrodAll enc' Tryd.prog W 0 (fun _ => true) true Tryd.f6.params.toList args.toList ds p := hA0
  rw [Tryd.params6] at hA hval
  obtain ⟨v0, v1, d0, d1, p0, p1, rfl, rfl, rfl, h0, h1⟩ := trodAll_two hA
  obtain ⟨rfl, rfl⟩ := trodVars_none hV
  obtain ⟨l0, hI0, hM0, hx0⟩ := open_entsAt (P := Tryd.prog) Tryd.underlying22 Tryd.underlying33 (by kernel_rfl) rfl rfl (by kernel_rfl) (by kernel_rfl) (by kernel_rfl) (by kernel_rfl) (hval 0 22 v0 rfl rfl) h0
  have hC0 := open_entsCap (P := Tryd.prog) Tryd.underlying22 Tryd.underlying33 (by kernel_rfl) rfl rfl (by kernel_rfl) (by kernel_rfl) (hval 0 22 v0 rfl rfl) h0
  obtain ⟨b1, hI1, hM1, hx1⟩ := open_bytesAt (hval 1 25 v1 rfl rfl) h1
  obtain ⟨p1q, c1q, rfl, hC1⟩ := open_bytesCap (hval 1 25 v1 rfl rfl) h1 hI1
  clear hA0 hval0
  refine (back_law v0 l0 _ b1 W ⟨hI0, hC0⟩ hx0 ⟨hI1, fun p n c h => by injection h with _ e2 e3; omega⟩ hx1 hM1).mono fun e W' ⟨he, hw⟩ => ?_
  subst he
  exact ⟨_, rfl, law_post 4 Tryd.laidOut (by kernel_rfl) rfl rfl Tryd.underlying4 hW' rfl hw⟩

theorem dirBack_row : Rows.DirBackSaid :=
  OpenClaim.holds_of_wide 6 Tryd.f6 rfl rfl rfl rfl rfl rfl rfl ⟨rfl, rfl, rfl, rfl, rfl⟩ rfl rfl rfl rfl rfl (by kernel_rfl) Tryd.func6 (by kernel_rfl)
    (of_decide_eq_true (by kernel_rfl)) (by unfold Func.isWrapper; first | (rw [if_pos (by decide +kernel)]; kernel_rfl) | (rw [if_neg (by decide +kernel)]; exact ⟨rfl, rfl⟩))
    (fun os started H enc _ => dirBack_lifted os started H enc)
theorem dirBack_holds : Rows.DirBackCardSaid :=
  Claim7.holds_tied_plain_at .later [] [.data, .pinned] true (true, "be823d61da5ae6658d3afda65833d26bb83317dd0533062f0025c3a31c46fa0e") false dirBack_row (fun _ h => by cases h) (by kernel_rfl) (fun _ h => by cases h) dirBack_row_tie rfl ⟨rfl, rfl⟩ (by kernel_rfl) rfl
    (fun f fn hf hfn => by
      obtain rfl : f = 6 := Option.some.inj ((show Tryd.prog.funcNamed "ringhall/ringkeep3.DirBack" = some 6 by kernel_rfl).symm.trans hf) |>.symm
      obtain rfl : fn = Tryd.f6 := (Option.some.inj (Tryd.func6.symm.trans hfn)).symm
      exact ⟨by kernel_rfl, fun j t ht => by
        rw [Tryd.params6] at ht
        have hm : t ∈ [22, 25] := by
          have := Array.mem_of_getElem? ht
          simpa using this
        have hall : ([22, 25].all fun u => !Tryd.prog.wantsStandIn u) = true := by kernel_rfl
        exact (show Tryd.prog.wantsStandIn t = false by simpa using List.all_eq_true.1 hall t hm)⟩)
    (by kernel_rfl)

end Go.Proofs.YtheiaebmemcbhaaDoor
