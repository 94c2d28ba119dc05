/- FsErrors: for all calls the statement returns true and leaves its arguments alone; the card: what its code names of the library's tables is as the program's text lays it. No other condition. -/
import Derived.Test.YtpcedcnjofbgjaaGreatDoorKC2
import Derived.Test.YtpcedcnjofbgjaaGreatDoorKC3
import Derived.Test.YtpcedcnjofbgjaaGreatDoorKC19
import Derived.Test.YtpcedcnjofbgjaaGreatDoorKC20
import Derived.Test.YtpcedcnjofbgjaaGreatDoorKC21
import Derived.Test.YtpcedcnjofbgjaaGreatDoorCards
import Derived.Test.YtpcedcnjofbgjaaGreatDoorTie
import Derived.OpenShut
import Derived.LaidMore
import Derived.Lay
import Derived.Stop.Joined
import Derived.ChangeMaps5
namespace Go.Proofs.YtpcedcnjofbgjaaGreatDoor
open Go.ChangeShapes Go.WideShapes Go.ChangeAt Go.RowKit Go.ChangeMaps
set_option maxRecDepth 100000 in
theorem fsErrors_lifted (os:Os) (started:os.Started) (H:Type) (enc':TypeId × Value->H):
 ReturnsInHanded {} Tryz.checked os 6 .any (λw args=>(Rows.fsErrorsSpec.pre enc' Tryz.prog Tryz.f6 Rows.fsErrorsRow.domain false w args/\laidMetH Tryz.prog Rows.fsErrorsRow.laid w)/\sizedMet enc' Tryz.prog Tryz.f6 (OpenSpec.ofChange Rows.fsErrorsSpec) false w args) (Rows.fsErrorsSpec.post enc' Tryz.prog Tryz.f6 false true false false):=by
 refine returnsInHanded_of_change_and (C:=Tryz.checked) (X:=λw _=>laidMetH Tryz.prog Rows.fsErrorsRow.laid w) (λ_ _ _ hh h=>h.of_heap hh) Tryz.own started (by kernel_rfl) Tryz.func6
  (ChangeSpec.witness_shaped (enc:=enc') (C:=Tryz.checked) (os:=os) (X:=λw _=>laidMetH Tryz.prog Rows.fsErrorsRow.laid w) false (World.laidAll Tryz.prog os Rows.fsErrorsRow.laid) #[(.slice none 0 0),(.agg #[.int .i64 0,.int .i64 0,.int .i64 0,.int .i64 0,.string ⟨#[]⟩])] 8 (World.laidAll_os _ _ _)
   (World.shaped_of_ZipB (by kernel_rfl) (by kernel_rfl)) (by kernel_rfl) (by kernel_rfl) (by kernel_rfl)
   (by rw[MakeChecks.laidMetH_plain _ _ _ (by kernel_rfl)];exact laidMet_laidAll _ (by kernel_rfl) (by kernel_rfl))) ?_
 intro W base args ds gs before hval0 hW _ _ _ _;have hval:∀ (j:Nat) t v,Tryz.f6.params[j]? = some t->args[j]? = some v->Value.okWide Tryz.prog W .any base t v:=hval0;have hW':=hW;obtain⟨p,q,hA0,hV,rfl,_,_⟩:=hW;have hA:DataW.TrodAll enc' Tryz.prog W 0 (λ_=>true) true Tryz.f6.params.toList args.toList ds p:=hA0;rw[Tryz.params6]at hA hval;obtain⟨v0,v1,d0,d1,p0,p1,rfl,rfl,rfl,h0,h1⟩:=trodAll_two hA;obtain⟨rfl,rfl⟩:=trodVars_none hV;obtain⟨l0,hI0,hM0,hx0⟩:=qlm (P:=Tryz.prog) Tryz.underlying22 Tryz.underlying30 (by kernel_rfl) rfl rfl rfl rfl rfl (by kernel_rfl) (by kernel_rfl) (by kernel_rfl) (by kernel_rfl) (by kernel_rfl) (by kernel_rfl) (by kernel_rfl) (by kernel_rfl) (by kernel_rfl) (by kernel_rfl) (hval 0 22 v0 rfl rfl) h0;obtain⟨x1,rfl,hS1⟩:=yclt (P:=Tryz.prog) Tryz.underlying30 (by kernel_rfl) rfl rfl rfl rfl rfl (by kernel_rfl) (by kernel_rfl) (by kernel_rfl) (by kernel_rfl) (by kernel_rfl) (by kernel_rfl) (by kernel_rfl) (by kernel_rfl) (by kernel_rfl) (by kernel_rfl) (hval 1 30 v1 rfl rfl) h1;clear hA0 hval0;refine (ybqp _ l0 x1 W hI0 hM0 hx0 hS1).mono λe W' ⟨he,hw⟩=>?_;subst he;exact⟨_,rfl,qvi 4 Tryz.laidOut (by kernel_rfl) rfl rfl Tryz.underlying4 hW' rfl hw⟩
theorem fsErrors_row : Rows.FsErrorsSaid:=
 OpenClaim.holds_of_wide 6 Tryz.f6 rfl rfl rfl rfl rfl rfl rfl ⟨rfl,rfl,rfl,rfl,rfl⟩ rfl rfl rfl rfl rfl qwu Tryz.func6 ybky
  (of_decide_eq_true (by kernel_rfl)) (by unfold Func.isWrapper;first | (rw[if_pos (by decide +kernel)];kernel_rfl) | (rw[if_neg (by decide +kernel)];exact⟨rfl,rfl⟩))
  (λos started H enc _=>fsErrors_lifted os started H enc)
theorem fsErrors_holds : Rows.FsErrorsCardSaid:=
 Claim7.holds_tied_plain_at .later [] [.data, .pinned] true (true, "aa5b8263b4248a5926d7d89bc2f6e480d4eefba66160f7e438a877409fd4f0a9") false fsErrors_row (λ_ h => by cases h) ybkz (λ_ h => by cases h) fsErrors_row_tie rfl ⟨rfl, rfl⟩ ybla rfl
  (λf fn hf hfn=>by obtain rfl:f=6:=Option.some.inj (qwu.symm.trans hf) |>.symm;obtain rfl:fn=Tryz.f6:=(Option.some.inj (Tryz.func6.symm.trans hfn)).symm;exact⟨yblc,λj t ht=>by rw[Tryz.params6]at ht;have hm:t ∈ [22,30]:=(by have:=Array.mem_of_getElem? ht;simpa using this);have hall:([22,30].all λu=> !Tryz.prog.wantsStandIn u)=true:=(by kernel_rfl);exact (show Tryz.prog.wantsStandIn t=false by simpa using List.all_eq_true.1 hall t hm)⟩)
  yblb
