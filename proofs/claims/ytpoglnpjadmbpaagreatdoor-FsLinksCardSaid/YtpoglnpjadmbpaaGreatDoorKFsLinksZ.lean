/- FsLinks: for all counts of names and bytes the statement returns true and leaves its arguments alone; the card: what its code names of the library's tables is as the program's text lays it. No other condition. -/
import Derived.Test.YtpoglnpjadmbpaaGreatDoorKA48
import Derived.Test.YtpoglnpjadmbpaaGreatDoorCards
import Derived.Test.YtpoglnpjadmbpaaGreatDoorTie
import Derived.OpenShut
import Derived.LaidMore
import Derived.Lay
import Derived.SevenTiedAt
import Derived.Stop.Joined
import Derived.ChangeMaps5
namespace Go.Proofs.YtpoglnpjadmbpaaGreatDoor
open Go.ChangeShapes Go.WideShapes Go.ChangeAt Go.RowKit Go.ChangeMaps
set_option maxRecDepth 100000 in
theorem fsLinks_lifted (os:Os) (started:os.Started) (H:Type) (enc':TypeId × Value->H):
  ReturnsInHanded {} Tryz.checked os 6 .any (fun w args=>(Rows.fsLinksSpec.pre enc' Tryz.prog Tryz.f6 Rows.fsLinksRow.domain false w args/\laidMetH Tryz.prog Rows.fsLinksRow.laid w)/\sizedMet enc' Tryz.prog Tryz.f6 (OpenSpec.ofChange Rows.fsLinksSpec) false w args) (Rows.fsLinksSpec.post enc' Tryz.prog Tryz.f6 false true false false):=by
 refine returnsInHanded_of_change_and (C:=Tryz.checked) (X:=fun w _=>laidMetH Tryz.prog Rows.fsLinksRow.laid w) (fun _ _ _ hh h=>h.of_heap hh) Tryz.own started (by kernel_rfl) Tryz.func6
  (ChangeSpec.witness_shaped (enc:=enc') (C:=Tryz.checked) (os:=os) (X:=fun w _=>laidMetH Tryz.prog Rows.fsLinksRow.laid w) false (World.laidAll Tryz.prog os Rows.fsLinksRow.laid) #[(.int .i64 0),(.slice none 0 0)] 8 (World.laidAll_os _ _ _)
   (World.shaped_of_ZipB (by kernel_rfl) (by kernel_rfl)) (by kernel_rfl) (by kernel_rfl) (by kernel_rfl)
   (by rw[MakeChecks.laidMetH_plain _ _ _ (by kernel_rfl)];exact laidMet_laidAll _ (by kernel_rfl) (by kernel_rfl))) ?_
 intro W base args ds gs before hval0 hW _ _ _ _
 have hval:∀ (j:Nat) t v,Tryz.f6.params[j]? = some t->args[j]? = some v->Value.okWide Tryz.prog W .any base t v:=hval0
 have hW':=hW
 obtain⟨p,q,hA0,hV,rfl,_,_⟩:=hW
 have hA:DataW.TrodAll enc' Tryz.prog W 0 (fun _=>true) true Tryz.f6.params.toList args.toList ds p:=hA0
 rw[Tryz.params6]at hA hval
 obtain⟨v0,v1,d0,d1,p0,p1,rfl,rfl,rfl,h0,h1⟩:=trodAll_two hA
 obtain⟨rfl,rfl⟩:=trodVars_none hV
 obtain⟨n0,rfl,_,_,hw0⟩:=open_int Tryz.underlying3 (hval 0 3 v0 rfl rfl) h0
 obtain⟨b1,hI1,hM1,hx1⟩:=qzj (hval 1 38 v1 rfl rfl) h1
 obtain⟨p1q,c1q,rfl,hC1⟩:=qwm (hval 1 38 v1 rfl rfl) h1 hI1
 clear hA0 hval0
 refine (ybmv n0 _ b1 W ⟨hI1,fun p n c h=>by injection h with _ e2 e3;omega⟩ hx1).mono fun e W' ⟨he,hw⟩=>?_
 subst he
 exact⟨_,rfl,ybsv 4 Tryz.laidOut (by kernel_rfl) rfl rfl Tryz.underlying4 hW' rfl hw⟩
theorem fsLinks_row : Rows.FsLinksSaid:=
 OpenClaim.holds_of_wide 6 Tryz.f6 rfl rfl rfl rfl rfl rfl rfl ⟨rfl,rfl,rfl,rfl,rfl⟩ rfl rfl rfl rfl rfl (by kernel_rfl) Tryz.func6 (by kernel_rfl)
  (of_decide_eq_true (by kernel_rfl)) (by unfold Func.isWrapper;first | (rw[if_pos (by decide +kernel)];kernel_rfl) | (rw[if_neg (by decide +kernel)];exact⟨rfl,rfl⟩))
  (fun os started H enc _=>fsLinks_lifted os started H enc)
theorem fsLinks_holds : Rows.FsLinksCardSaid:=
 Claim7.holds_tied_plain_at .later [] [.data, .pinned] true (true, "de6d4493e24de49d5e543b0bf1f27a77437f89fc427d4d510a17af16703bac09") false fsLinks_row (fun _ h => by cases h) (by kernel_rfl) (fun _ h => by cases h) fsLinks_row_tie rfl ⟨rfl, rfl⟩ (by kernel_rfl) rfl
  (fun f fn hf hfn=>by
   obtain rfl : f = 6 := Option.some.inj ((show Tryz.prog.funcNamed "ringhall/ringkeep3.FsLinks" = some 6 by kernel_rfl).symm.trans hf) |>.symm
   obtain rfl:fn=Tryz.f6:=(Option.some.inj (Tryz.func6.symm.trans hfn)).symm
   exact⟨by kernel_rfl,fun j t ht=>by
    rw[Tryz.params6]at ht
    have hm:t ∈ [3,38]:=by
     have:=Array.mem_of_getElem? ht
     simpa using this
    have hall:([3,38].all fun u=> !Tryz.prog.wantsStandIn u)=true:=by kernel_rfl
    exact (show Tryz.prog.wantsStandIn t=false by simpa using List.all_eq_true.1 hall t hm)⟩)
  (by kernel_rfl)
end Go.Proofs.YtpoglnpjadmbpaaGreatDoor
