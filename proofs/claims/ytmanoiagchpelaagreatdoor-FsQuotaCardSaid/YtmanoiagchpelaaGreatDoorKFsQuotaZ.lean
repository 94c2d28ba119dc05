/- FsQuota: for all calls and users the statement returns true and leaves its arguments alone; the card: what its code names of the library's tables is as the program's text lays it. No other condition. -/
import Derived.Test.YtmanoiagchpelaaGreatDoorKC3
import Derived.Test.YtmanoiagchpelaaGreatDoorKC7
import Derived.Test.YtmanoiagchpelaaGreatDoorKC8
import Derived.Test.YtmanoiagchpelaaGreatDoorKC9
import Derived.Test.YtmanoiagchpelaaGreatDoorCards
import Derived.Test.YtmanoiagchpelaaGreatDoorTie
import Derived.OpenShut
import Derived.LaidMore
import Derived.Lay
import Derived.Stop.Joined
import Derived.ChangeMaps5
namespace Go.Proofs.YtmanoiagchpelaaGreatDoor
open Go.ChangeShapes Go.WideShapes Go.ChangeAt Go.RowKit Go.ChangeMaps
set_option maxRecDepth 100000 in
theorem fsQuota_lifted (os:Os) (started:os.Started) (H:Type) (enc':TypeId × Value->H):
 ReturnsInHanded {} Tryz.checked os 4 .any (fun w args=>(Rows.fsQuotaSpec.pre enc' Tryz.prog Tryz.f4 Rows.fsQuotaRow.domain false w args/\laidMetH Tryz.prog Rows.fsQuotaRow.laid w)/\sizedMet enc' Tryz.prog Tryz.f4 (OpenSpec.ofChange Rows.fsQuotaSpec) false w args) (Rows.fsQuotaSpec.post enc' Tryz.prog Tryz.f4 false true false false):=by
 refine returnsInHanded_of_change_and (C:=Tryz.checked) (X:=fun w _=>laidMetH Tryz.prog Rows.fsQuotaRow.laid w) (fun _ _ _ hh h=>h.of_heap hh) Tryz.own started (by kernel_rfl) Tryz.func4
  (ChangeSpec.witness_shaped (enc:=enc') (C:=Tryz.checked) (os:=os) (X:=fun w _=>laidMetH Tryz.prog Rows.fsQuotaRow.laid w) false (World.laidAll Tryz.prog os Rows.fsQuotaRow.laid) #[(.slice none 0 0),(.int .i64 0)] 8 (World.laidAll_os _ _ _)
   (World.shaped_of_ZipB (by kernel_rfl) (by kernel_rfl)) (by kernel_rfl) (by kernel_rfl) (by kernel_rfl)
   (by rw[MakeChecks.laidMetH_plain _ _ _ (by kernel_rfl)];exact laidMet_laidAll _ (by kernel_rfl) (by kernel_rfl))) ?_
 intro W base args ds gs before hval0 hW _ _ _ _;have hval:∀ (j:Nat) t v,Tryz.f4.params[j]? = some t->args[j]? = some v->Value.okWide Tryz.prog W .any base t v:=hval0;have hW':=hW;obtain⟨p,q,hA0,hV,rfl,_,_⟩:=hW;have hA:DataW.TrodAll enc' Tryz.prog W 0 (fun _=>true) true Tryz.f4.params.toList args.toList ds p:=hA0;rw[Tryz.params4]at hA hval;obtain⟨v0,v1,d0,d1,p0,p1,rfl,rfl,rfl,h0,h1⟩:=trodAll_two hA;obtain⟨rfl,rfl⟩:=trodVars_none hV;obtain⟨l0,hI0,hM0,hx0⟩:=qza (P:=Tryz.prog) Tryz.underlying22 Tryz.underlying30 (by kernel_rfl) rfl rfl rfl rfl rfl (by kernel_rfl) (by kernel_rfl) (by kernel_rfl) (by kernel_rfl) (by kernel_rfl) (by kernel_rfl) (by kernel_rfl) (by kernel_rfl) (by kernel_rfl) (by kernel_rfl) (hval 0 22 v0 rfl rfl) h0;obtain⟨n1,rfl,_,_,hw1⟩:=open_int Tryz.underlying3 (hval 1 3 v1 rfl rfl) h1;clear hA0 hval0;refine (ybvt _ l0 n1 W hI0 hM0 hx0).mono fun e W' ⟨he,hw⟩=>?_;subst he;exact⟨_,rfl,yblb 4 Tryz.laidOut (by kernel_rfl) rfl rfl Tryz.underlying4 hW' rfl hw⟩
theorem fsQuota_row : Rows.FsQuotaSaid:=
 OpenClaim.holds_of_wide 4 Tryz.f4 rfl rfl rfl rfl rfl rfl rfl ⟨rfl,rfl,rfl,rfl,rfl⟩ rfl rfl rfl rfl rfl qyk Tryz.func4 ybnm
  (of_decide_eq_true (by kernel_rfl)) (by unfold Func.isWrapper;first | (rw[if_pos (by decide +kernel)];kernel_rfl) | (rw[if_neg (by decide +kernel)];exact⟨rfl,rfl⟩))
  (fun os started H enc _=>fsQuota_lifted os started H enc)
theorem fsQuota_holds : Rows.FsQuotaCardSaid:=
 Claim7.holds_tied_plain_at .later [] [.data, .pinned] true (true, "8541e45672bde8cfbdddd57d9b93278e3bf0bcdc4b11c30fffb80beaa6839096") false fsQuota_row (fun _ h => by cases h) ybnn (fun _ h => by cases h) fsQuota_row_tie rfl ⟨rfl, rfl⟩ ybno rfl
  (fun f fn hf hfn=>by obtain rfl:f=4:=Option.some.inj (qyk.symm.trans hf) |>.symm;obtain rfl:fn=Tryz.f4:=(Option.some.inj (Tryz.func4.symm.trans hfn)).symm;exact⟨ybnq,fun j t ht=>by rw[Tryz.params4]at ht;have hm:t ∈ [22,3]:=(by have:=Array.mem_of_getElem? ht;simpa using this);have hall:([22,3].all fun u=> !Tryz.prog.wantsStandIn u)=true:=(by kernel_rfl);exact (show Tryz.prog.wantsStandIn t=false by simpa using List.all_eq_true.1 hall t hm)⟩)
  ybnp
end Go.Proofs.YtmanoiagchpelaaGreatDoor
