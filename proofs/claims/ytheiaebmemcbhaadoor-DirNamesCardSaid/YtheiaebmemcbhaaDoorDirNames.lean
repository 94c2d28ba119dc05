/- DirNames: for all texts and bytes the statement returns true and leaves its arguments alone; the card: the two tables of the library's that its code names are as the program's text lays them. No other condition. -/
import Derived.Test.YtheiaebmemcbhaaDoorDirNamesLaw
import Derived.Test.YtheiaebmemcbhaaDoorDirOpen
import Derived.Test.YtheiaebmemcbhaaDoorOwn
import Derived.Test.YtheiaebmemcbhaaDoorCards
import Derived.Test.YtheiaebmemcbhaaDoorTie
import Derived.OpenShut
import Derived.LaidMore
import Derived.Lay
import Derived.SevenTiedAt
import Derived.Stop.Joined
import Derived.ChangeMaps5
namespace Go.Proofs.YtheiaebmemcbhaaDoor
open Go.ChangeShapes Go.WideShapes Go.ChangeAt Go.RowKit Go.ChangeMaps

set_option maxRecDepth 100000 in
theorem dirNames_lifted (os : Os) (started : os.Started) (H : Type) (enc' : TypeId × Value → H) :
    ReturnsInHanded {} Tryd.checked os 4 .any (fun w args => (Rows.dirNamesSpec.pre enc' Tryd.prog Tryd.f4 Rows.dirNamesRow.domain false w args ∧ laidMetH Tryd.prog Rows.dirNamesRow.laid w) ∧ sizedMet enc' Tryd.prog Tryd.f4 (OpenSpec.ofChange Rows.dirNamesSpec) false w args) (Rows.dirNamesSpec.post enc' Tryd.prog Tryd.f4 false true false false) := by
  refine returnsInHanded_of_change_and (C := Tryd.checked) (X := fun w _ => laidMetH Tryd.prog Rows.dirNamesRow.laid w) (fun _ _ _ hh h => h.of_heap hh) Tryd.own started (by kernel_rfl) Tryd.func4
    (ChangeSpec.witness_shaped (enc := enc') (C := Tryd.checked) (os := os) (X := fun w _ => laidMetH Tryd.prog Rows.dirNamesRow.laid w) false (World.laidAll Tryd.prog os Rows.dirNamesRow.laid) #[(.string ⟨#[]⟩), (.int .u8 0)] 8 (World.laidAll_os _ _ _)
      (World.shaped_of_ZipB (by kernel_rfl) (by kernel_rfl)) (by kernel_rfl) (by kernel_rfl) (by kernel_rfl)
      (by rw [MakeChecks.laidMetH_plain _ _ _ (by kernel_rfl)]; exact laidMet_laidAll _ (by kernel_rfl) (by kernel_rfl))) ?_
  intro W base args ds gs before hval0 hW _ _ _ _
  have hval : ∀ (j : Nat) t v, Tryd.f4.params[j]? = some t → args[j]? = some v → Value.okWide Tryd.prog W .any base t v := hval0
  have hW' := hW
  obtain ⟨p, q, hA0, hV, rfl, _, _⟩ := hW
  have hA : DataW.TrodAll enc' Tryd.prog W 0 (fun _ => true) true Tryd.f4.params.toList args.toList ds p := hA0
  rw [Tryd.params4] at hA hval
  obtain ⟨v0, v1, d0, d1, p0, p1, rfl, rfl, rfl, h0, h1⟩ := trodAll_two hA
  obtain ⟨rfl, rfl⟩ := trodVars_none hV
  obtain ⟨s0, rfl, _, _, hs0⟩ := open_string Tryd.underlying9 (hval 0 9 v0 rfl rfl) h0
  obtain ⟨n1, rfl, _, _, hw1⟩ := open_int Tryd.underlying5 (hval 1 5 v1 rfl rfl) h1
  have hu1 := u8_of_wf hw1
  clear hA0 hval0
  refine (names_law s0 n1 W hu1.1 hu1.2).mono fun e W' ⟨he, hw⟩ => ?_
  subst he
  exact ⟨_, rfl, law_post 4 Tryd.laidOut (by kernel_rfl) rfl rfl Tryd.underlying4 hW' rfl hw⟩

theorem dirNames_row : Rows.DirNamesSaid :=
  OpenClaim.holds_of_wide 4 Tryd.f4 rfl rfl rfl rfl rfl rfl rfl ⟨rfl, rfl, rfl, rfl, rfl⟩ rfl rfl rfl rfl rfl (by kernel_rfl) Tryd.func4 (by kernel_rfl)
    (of_decide_eq_true (by kernel_rfl)) (by unfold Func.isWrapper; first | (rw [if_pos (by decide +kernel)]; kernel_rfl) | (rw [if_neg (by decide +kernel)]; exact ⟨rfl, rfl⟩))
    (fun os started H enc _ => dirNames_lifted os started H enc)
theorem dirNames_holds : Rows.DirNamesCardSaid :=
  Claim7.holds_tied_plain_at .later [] [.data, .pinned] true (true, "be823d61da5ae6658d3afda65833d26bb83317dd0533062f0025c3a31c46fa0e") false dirNames_row (fun _ h => by cases h) (by kernel_rfl) (fun _ h => by cases h) dirNames_row_tie rfl ⟨rfl, rfl⟩ (by kernel_rfl) rfl
    (fun f fn hf hfn => by
      obtain rfl : f = 4 := Option.some.inj ((show Tryd.prog.funcNamed "ringhall/ringkeep3.DirNames" = some 4 by kernel_rfl).symm.trans hf) |>.symm
      obtain rfl : fn = Tryd.f4 := (Option.some.inj (Tryd.func4.symm.trans hfn)).symm
      exact ⟨by kernel_rfl, fun j t ht => by
        rw [Tryd.params4] at ht
        have hm : t ∈ [9, 5] := by
          have := Array.mem_of_getElem? ht
          simpa using this
        have hall : ([9, 5].all fun u => !Tryd.prog.wantsStandIn u) = true := by kernel_rfl
        exact (show Tryd.prog.wantsStandIn t = false by simpa using List.all_eq_true.1 hall t hm)⟩)
    (by kernel_rfl)

end Go.Proofs.YtheiaebmemcbhaaDoor
