/- FsRight: for all calls the statement returns true and leaves its arguments alone; the card: what its code names of the library's tables is as the program's text lays it. No other condition. -/
import Derived.Test.YtpcedcnjofbgjaaGreatDoorKC9
import Derived.Test.YtpcedcnjofbgjaaGreatDoorKC10
import Derived.Test.YtpcedcnjofbgjaaGreatDoorKC11
import Derived.Test.YtpcedcnjofbgjaaGreatDoorKC12
import Derived.Test.YtpcedcnjofbgjaaGreatDoorCards
import Derived.Test.YtpcedcnjofbgjaaGreatDoorTie
import Derived.OpenShut
import Derived.LaidMore
import Derived.Lay
import Derived.Stop.Joined
import Derived.ChangeMaps5
namespace Go.Proofs.YtpcedcnjofbgjaaGreatDoor
open Go.ChangeShapes Go.WideShapes Go.ChangeAt Go.RowKit Go.ChangeMaps
set_option maxRecDepth 100000 in
theorem fsRight_lifted (os:Os) (started:os.Started) (H:Type) (enc':TypeId × Value->H):
 ReturnsInHanded {} Tryz.checked os 3 .any (λw args=>(Rows.fsRightSpec.pre enc' Tryz.prog Tryz.f3 Rows.fsRightRow.domain false w args/\laidMetH Tryz.prog Rows.fsRightRow.laid w)/\sizedMet enc' Tryz.prog Tryz.f3 (OpenSpec.ofChange Rows.fsRightSpec) false w args) (Rows.fsRightSpec.post enc' Tryz.prog Tryz.f3 false true false false):=by
 refine returnsInHanded_of_change_and (C:=Tryz.checked) (X:=λw _=>laidMetH Tryz.prog Rows.fsRightRow.laid w) (λ_ _ _ hh h=>h.of_heap hh) Tryz.own started (by kernel_rfl) Tryz.func3
  (ChangeSpec.witness_shaped (enc:=enc') (C:=Tryz.checked) (os:=os) (X:=λw _=>laidMetH Tryz.prog Rows.fsRightRow.laid w) false (World.laidAll Tryz.prog os Rows.fsRightRow.laid) #[(.slice none 0 0)] 8 (World.laidAll_os _ _ _)
   (World.shaped_of_ZipB (by kernel_rfl) (by kernel_rfl)) (by kernel_rfl) (by kernel_rfl) (by kernel_rfl)
   (by rw[MakeChecks.laidMetH_plain _ _ _ (by kernel_rfl)];exact laidMet_laidAll _ (by kernel_rfl) (by kernel_rfl))) ?_
 intro W base args ds gs before hval0 hW _ _ _ _;have hval:∀ (j:Nat) t v,Tryz.f3.params[j]? = some t->args[j]? = some v->Value.okWide Tryz.prog W .any base t v:=hval0;have hW':=hW;obtain⟨p,q,hA0,hV,rfl,_,_⟩:=hW;have hA:DataW.TrodAll enc' Tryz.prog W 0 (λ_=>true) true Tryz.f3.params.toList args.toList ds p:=hA0;rw[Tryz.params3]at hA hval;obtain⟨v0,d0,rfl,rfl,h0⟩:=trodAll_one hA;obtain⟨rfl,rfl⟩:=trodVars_none hV;obtain⟨l0,hI0,hM0,hx0⟩:=qlm (P:=Tryz.prog) Tryz.underlying22 Tryz.underlying30 (by kernel_rfl) rfl rfl rfl rfl rfl (by kernel_rfl) (by kernel_rfl) (by kernel_rfl) (by kernel_rfl) (by kernel_rfl) (by kernel_rfl) (by kernel_rfl) (by kernel_rfl) (by kernel_rfl) (by kernel_rfl) (hval 0 22 v0 rfl rfl) h0;clear hA0 hval0;refine (ycai _ l0 W hI0 hM0 hx0).mono λe W' ⟨he,hw⟩=>?_;subst he;exact⟨_,rfl,qvi 4 Tryz.laidOut (by kernel_rfl) rfl rfl Tryz.underlying4 hW' rfl hw⟩
theorem fsRight_row : Rows.FsRightSaid:=
 OpenClaim.holds_of_wide 3 Tryz.f3 rfl rfl rfl rfl rfl rfl rfl ⟨rfl,rfl,rfl,rfl,rfl⟩ rfl rfl rfl rfl rfl ybak Tryz.func3 ybrg
  (of_decide_eq_true (by kernel_rfl)) (by unfold Func.isWrapper;first | (rw[if_pos (by decide +kernel)];kernel_rfl) | (rw[if_neg (by decide +kernel)];exact⟨rfl,rfl⟩))
  (λos started H enc _=>fsRight_lifted os started H enc)
theorem fsRight_holds : Rows.FsRightCardSaid:=
 Claim7.holds_tied_plain_at .later [] [.data, .pinned] true (true, "aa5b8263b4248a5926d7d89bc2f6e480d4eefba66160f7e438a877409fd4f0a9") false fsRight_row (λ_ h => by cases h) ybrh (λ_ h => by cases h) fsRight_row_tie rfl ⟨rfl, rfl⟩ ybri rfl
  (λf fn hf hfn=>by obtain rfl:f=3:=Option.some.inj (ybak.symm.trans hf) |>.symm;obtain rfl:fn=Tryz.f3:=(Option.some.inj (Tryz.func3.symm.trans hfn)).symm;exact⟨ybrk,λj t ht=>by rw[Tryz.params3]at ht;have hm:t ∈ [22]:=(by have:=Array.mem_of_getElem? ht;simpa using this);have hall:([22].all λu=> !Tryz.prog.wantsStandIn u)=true:=(by kernel_rfl);exact (show Tryz.prog.wantsStandIn t=false by simpa using List.all_eq_true.1 hall t hm)⟩)
  ybrj
