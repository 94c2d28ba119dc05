/- FsKept: for all calls the statement returns true and leaves its arguments alone; the card: what its code names of the library's tables is as the program's text lays it. No other condition. -/
import Derived.Test.YtpcedcnjofbgjaaGreatDoorKC5
import Derived.Test.YtpcedcnjofbgjaaGreatDoorKC13
import Derived.Test.YtpcedcnjofbgjaaGreatDoorKC14
import Derived.Test.YtpcedcnjofbgjaaGreatDoorKC15
import Derived.Test.YtpcedcnjofbgjaaGreatDoorCards
import Derived.Test.YtpcedcnjofbgjaaGreatDoorTie
import Derived.OpenShut
import Derived.LaidMore
import Derived.Lay
import Derived.Stop.Joined
import Derived.ChangeMaps5
namespace Go.Proofs.YtpcedcnjofbgjaaGreatDoor
open Go.ChangeShapes Go.WideShapes Go.ChangeAt Go.RowKit Go.ChangeMaps
set_option maxRecDepth 100000 in
theorem fsKept_lifted (os:Os) (started:os.Started) (H:Type) (enc':TypeId × Value->H):
 ReturnsInHanded {} Tryz.checked os 4 .any (λw args=>(Rows.fsKeptSpec.pre enc' Tryz.prog Tryz.f4 Rows.fsKeptRow.domain false w args/\laidMetH Tryz.prog Rows.fsKeptRow.laid w)/\sizedMet enc' Tryz.prog Tryz.f4 (OpenSpec.ofChange Rows.fsKeptSpec) false w args) (Rows.fsKeptSpec.post enc' Tryz.prog Tryz.f4 false true false false):=by
 refine returnsInHanded_of_change_and (C:=Tryz.checked) (X:=λw _=>laidMetH Tryz.prog Rows.fsKeptRow.laid w) (λ_ _ _ hh h=>h.of_heap hh) Tryz.own started (by kernel_rfl) Tryz.func4
  (ChangeSpec.witness_shaped (enc:=enc') (C:=Tryz.checked) (os:=os) (X:=λw _=>laidMetH Tryz.prog Rows.fsKeptRow.laid w) false (World.laidAll Tryz.prog os Rows.fsKeptRow.laid) #[(.slice none 0 0),(.slice none 0 0)] 8 (World.laidAll_os _ _ _)
   (World.shaped_of_ZipB (by kernel_rfl) rfl) (by kernel_rfl) rfl rfl
   (by rw[MakeChecks.laidMetH_plain _ _ _ rfl];exact laidMet_laidAll _ (by kernel_rfl) (by kernel_rfl))) ?_
 intro W base args ds gs before hval0 hW _ _ _ _;have hval:∀ (j:Nat) t v,Tryz.f4.params[j]? = some t->args[j]? = some v->Value.okWide Tryz.prog W .any base t v:=hval0;have hW':=hW;obtain⟨p,q,hA0,hV,rfl,_,_⟩:=hW;have hA:DataW.TrodAll enc' Tryz.prog W 0 (λ_=>true) true Tryz.f4.params.toList args.toList ds p:=hA0;rw[Tryz.params4]at hA hval;obtain⟨v0,v1,d0,d1,p0,p1,rfl,rfl,rfl,h0,h1⟩:=trodAll_two hA;obtain⟨rfl,rfl⟩:=trodVars_none hV;let⟨l0,hI0,hM0,hx0⟩:=qlm (P:=Tryz.prog) Tryz.underlying22 Tryz.underlying30 (by kernel_rfl) rfl rfl rfl rfl rfl (by kernel_rfl) (by kernel_rfl) (by kernel_rfl) (by kernel_rfl) (by kernel_rfl) (by kernel_rfl) (by kernel_rfl) (by kernel_rfl) (by kernel_rfl) (by kernel_rfl) (hval 0 22 v0 rfl rfl) h0;let⟨l1,hI1,hM1,hx1⟩:=qlm (P:=Tryz.prog) Tryz.underlying22 Tryz.underlying30 (by kernel_rfl) rfl rfl rfl rfl rfl (by kernel_rfl) (by kernel_rfl) (by kernel_rfl) (by kernel_rfl) (by kernel_rfl) (by kernel_rfl) (by kernel_rfl) (by kernel_rfl) (by kernel_rfl) (by kernel_rfl) (hval 1 22 v1 rfl rfl) h1;clear hA0 hval0;refine (ycfg _ _ l0 l1 W hI0 hI1 hM0 hM1 hx0 hx1).mono λe W' ⟨he,hw⟩=>?_;subst he;exact⟨_,rfl,qvi 4 Tryz.laidOut (by kernel_rfl) rfl rfl Tryz.underlying4 hW' rfl hw⟩
theorem fsKept_row : Rows.FsKeptSaid:=
 OpenClaim.holds_of_wide 4 Tryz.f4 rfl rfl rfl rfl rfl rfl rfl ⟨rfl,rfl,rfl,rfl,rfl⟩ rfl rfl rfl rfl rfl ybgn Tryz.func4 ybwq
  (of_decide_eq_true rfl) (by unfold Func.isWrapper;first | (rw[if_pos (by decide +kernel)];kernel_rfl) | (rw[if_neg (by decide +kernel)];exact⟨rfl,rfl⟩))
  (λos started H enc _=>fsKept_lifted os started H enc)
theorem fsKept_holds : Rows.FsKeptCardSaid:=
 Claim7.holds_tied_plain_at .later [] [.data, .pinned] true (true, "aa5b8263b4248a5926d7d89bc2f6e480d4eefba66160f7e438a877409fd4f0a9") false fsKept_row (λ_ h => by cases h) ybwr (λ_ h => by cases h) fsKept_row_tie rfl ⟨rfl, rfl⟩ ybws rfl
  (λf fn hf hfn=>by obtain rfl:f=4:=Option.some.inj (ybgn.symm.trans hf) |>.symm;obtain rfl:fn=Tryz.f4:=(Option.some.inj (Tryz.func4.symm.trans hfn)).symm;exact⟨ybwu,λj t ht=>by rw[Tryz.params4]at ht;have hall:([22].all λu=> !Tryz.prog.wantsStandIn u)=true:=(by kernel_rfl);exact (show Tryz.prog.wantsStandIn t=false by simpa using List.all_eq_true.1 hall t (by have:=Array.mem_of_getElem? ht;simpa using this))⟩)
  ybwt
