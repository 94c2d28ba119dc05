/- CheckFresh: for all sizes the statement returns true and leaves its arguments alone; the card: what its code names of the library's tables is as the program's text lays it. No other condition. -/
import Derived.Test.YtpoglnpjadmbpaaGreatDoorMC3
import Derived.Test.YtpoglnpjadmbpaaGreatDoorCards
import Derived.Test.YtpoglnpjadmbpaaGreatDoorTie
import Derived.OpenShut
import Derived.LaidMore
import Derived.Lay
import Derived.SevenTiedAt
import Derived.Stop.Joined
import Derived.ChangeMaps5
namespace Go.Proofs.YtpoglnpjadmbpaaGreatDoor
open Go.ChangeShapes Go.WideShapes Go.ChangeAt Go.RowKit Go.ChangeMaps
set_option maxRecDepth 100000 in
theorem checkFresh_lifted (os : Os) (started : os.Started) (H : Type) (enc' : TypeId × Value → H) :
  ReturnsInHanded {} Tryz.checked os 3 .any (fun w args => (Rows.checkFreshSpec.pre enc' Tryz.prog Tryz.f3 Rows.checkFreshRow.domain false w args ∧ laidMetH Tryz.prog Rows.checkFreshRow.laid w) ∧ sizedMet enc' Tryz.prog Tryz.f3 (OpenSpec.ofChange Rows.checkFreshSpec) false w args) (Rows.checkFreshSpec.post enc' Tryz.prog Tryz.f3 false true false false) := by
 refine returnsInHanded_of_change_and (C := Tryz.checked) (X := fun w _ => laidMetH Tryz.prog Rows.checkFreshRow.laid w) (fun _ _ _ hh h => h.of_heap hh) Tryz.own started (by kernel_rfl) Tryz.func3
  (ChangeSpec.witness_shaped (enc := enc') (C := Tryz.checked) (os := os) (X := fun w _ => laidMetH Tryz.prog Rows.checkFreshRow.laid w) false (World.laidAll Tryz.prog os Rows.checkFreshRow.laid) #[(.int .i64 0)] 8 (World.laidAll_os _ _ _)
   (World.shaped_of_ZipB (by kernel_rfl) (by kernel_rfl)) (by kernel_rfl) (by kernel_rfl) (by kernel_rfl)
   (by rw [MakeChecks.laidMetH_plain _ _ _ (by kernel_rfl)]; exact laidMet_laidAll _ (by kernel_rfl) (by kernel_rfl))) ?_
 intro W base args ds gs before hval0 hW _ _ _ _
 have hval : ∀ (j : Nat) t v, Tryz.f3.params[j]? = some t → args[j]? = some v → Value.okWide Tryz.prog W .any base t v := hval0
 have hW' := hW
 obtain ⟨p, q, hA0, hV, rfl, _, _⟩ := hW
 have hA : DataW.TrodAll enc' Tryz.prog W 0 (fun _ => true) true Tryz.f3.params.toList args.toList ds p := hA0
 rw [Tryz.params3] at hA hval
 obtain ⟨v0, d0, rfl, rfl, h0⟩ := trodAll_one hA
 obtain ⟨rfl, rfl⟩ := trodVars_none hV
 obtain ⟨n0, rfl, _, _, hw0⟩ := open_int Tryz.underlying3 (hval 0 3 v0 rfl rfl) h0
 clear hA0 hval0
 refine (ybmd n0 W).mono fun e W' ⟨he, hw⟩ => ?_
 subst he
 exact ⟨_, rfl, qxe 4 Tryz.laidOut (by kernel_rfl) rfl rfl Tryz.underlying4 hW' rfl hw⟩
theorem checkFresh_row : Rows.CheckFreshSaid :=
 OpenClaim.holds_of_wide 3 Tryz.f3 rfl rfl rfl rfl rfl rfl rfl ⟨rfl, rfl, rfl, rfl, rfl⟩ rfl rfl rfl rfl rfl (by kernel_rfl) Tryz.func3 (by kernel_rfl)
  (of_decide_eq_true (by kernel_rfl)) (by unfold Func.isWrapper; first | (rw [if_pos (by decide +kernel)]; kernel_rfl) | (rw [if_neg (by decide +kernel)]; exact ⟨rfl, rfl⟩))
  (fun os started H enc _ => checkFresh_lifted os started H enc)
theorem checkFresh_holds : Rows.CheckFreshCardSaid :=
 Claim7.holds_tied_plain_at .later [] [.data, .pinned] true (true, "de6d4493e24de49d5e543b0bf1f27a77437f89fc427d4d510a17af16703bac09") false checkFresh_row (fun _ h => by cases h) (by kernel_rfl) (fun _ h => by cases h) checkFresh_row_tie rfl ⟨rfl, rfl⟩ (by kernel_rfl) rfl
  (fun f fn hf hfn => by
   obtain rfl : f = 3 := Option.some.inj ((show Tryz.prog.funcNamed "ringhall/ringkeep3.CheckFresh" = some 3 by kernel_rfl).symm.trans hf) |>.symm
   obtain rfl : fn = Tryz.f3 := (Option.some.inj (Tryz.func3.symm.trans hfn)).symm
   exact ⟨by kernel_rfl, fun j t ht => by
    rw [Tryz.params3] at ht
    have hm : t ∈ [3] := by
     have := Array.mem_of_getElem? ht
     simpa using this
    have hall : ([3].all fun u => !Tryz.prog.wantsStandIn u) = true := by kernel_rfl
    exact (show Tryz.prog.wantsStandIn t = false by simpa using List.all_eq_true.1 hall t hm)⟩)
  (by kernel_rfl)
end Go.Proofs.YtpoglnpjadmbpaaGreatDoor
