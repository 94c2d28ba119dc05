/- FsReads: for all calls, bytes and places the statement returns true and leaves its arguments alone; the card: what its code names of the library's tables is as the program's text lays it. No other condition. -/
import Derived.Test.YtakfhadmokoikaaGreatDoorKA48
import Derived.Test.YtakfhadmokoikaaGreatDoorCards
import Derived.Test.YtakfhadmokoikaaGreatDoorTie
import Derived.OpenShut
import Derived.LaidMore
import Derived.Lay
import Derived.SevenTiedAt
import Derived.Stop.Joined
import Derived.ChangeMaps5
namespace Go.Proofs.YtakfhadmokoikaaGreatDoor
open Go.ChangeShapes Go.WideShapes Go.ChangeAt Go.RowKit Go.ChangeMaps
set_option maxRecDepth 100000 in
theorem fsReads_lifted (os:Go.Os) (started:os.Started) (H:Type) (enc':TypeId × Value->H):
 ReturnsInHanded {} Tryz.checked os 3 .any (fun w args=>(Rows.fsReadsSpec.pre enc' Tryz.prog Tryz.f3 Rows.fsReadsRow.domain false w args/\laidMetH Tryz.prog Rows.fsReadsRow.laid w)/\sizedMet enc' Tryz.prog Tryz.f3 (OpenSpec.ofChange Rows.fsReadsSpec) false w args) (Rows.fsReadsSpec.post enc' Tryz.prog Tryz.f3 false true false false):=by
 refine returnsInHanded_of_change_and (C:=Tryz.checked) (X:=fun w _=>laidMetH Tryz.prog Rows.fsReadsRow.laid w) (fun _ _ _ hh h=>h.of_heap hh) Tryz.own started (by kernel_rfl) Tryz.func3
  (ChangeSpec.witness_shaped (enc:=enc') (C:=Tryz.checked) (os:=os) (X:=fun w _=>laidMetH Tryz.prog Rows.fsReadsRow.laid w) false (World.laidAll Tryz.prog os Rows.fsReadsRow.laid) #[(.slice none 0 0),(.slice none 0 0),(.int .i64 0),(.int .i64 0)] 8 (World.laidAll_os _ _ _)
   (World.shaped_of_ZipB (by kernel_rfl) (by kernel_rfl)) (by kernel_rfl) (by kernel_rfl) (by kernel_rfl)
   (by rw[MakeChecks.laidMetH_plain _ _ _ (by kernel_rfl)];exact laidMet_laidAll _ (by kernel_rfl) (by kernel_rfl))) ?_
 intro W base args ds gs before hval0 hW _ _ _ _;have hval:∀ (j:Nat) t v,Tryz.f3.params[j]? = some t->args[j]? = some v->Value.okWide Tryz.prog W .any base t v:=hval0;have hW':=hW;obtain⟨p,q,hA0,hV,rfl,_,_⟩:=hW;have hA:DataW.TrodAll enc' Tryz.prog W 0 (fun _=>true) true Tryz.f3.params.toList args.toList ds p:=hA0;rw[Tryz.params3]at hA hval;obtain⟨v0,v1,v2,v3,d0,d1,d2,d3,p0,p1,p2,p3,rfl,rfl,rfl,h0,h1,h2,h3⟩:=trodAll_four hA;obtain⟨rfl,rfl⟩:=trodVars_none hV;obtain⟨l0,hI0,hM0,hx0⟩:=ybnd (P:=Tryz.prog) Tryz.underlying22 Tryz.underlying53 (by kernel_rfl) rfl rfl rfl rfl rfl (by kernel_rfl) (by kernel_rfl) (by kernel_rfl) (by kernel_rfl) (by kernel_rfl) (by kernel_rfl) (by kernel_rfl) (by kernel_rfl) (by kernel_rfl) (by kernel_rfl) (hval 0 22 v0 rfl rfl) h0;obtain⟨b1,hI1,hM1,hx1⟩:=ybdz (hval 1 23 v1 rfl rfl) h1;obtain⟨p1q,c1q,rfl,hC1⟩:=ybad (hval 1 23 v1 rfl rfl) h1 hI1;obtain⟨n2,rfl,_,_,hw2⟩:=open_int Tryz.underlying3 (hval 2 3 v2 rfl rfl) h2;obtain⟨n3,rfl,_,_,hw3⟩:=open_int Tryz.underlying3 (hval 3 3 v3 rfl rfl) h3;clear hA0 hval0;refine (ybtx _ l0 _ b1 n2 n3 W hI0 hM0 hx0 ⟨hI1,fun p n c h=>by injection h with _ e2 e3;omega⟩ hx1).mono fun e W' ⟨he,hw⟩=>?_;subst he;exact⟨_,rfl,ybza 4 Tryz.laidOut (by kernel_rfl) rfl rfl Tryz.underlying4 hW' rfl hw⟩
theorem fsReads_row : Rows.FsReadsSaid:=
 OpenClaim.holds_of_wide 3 Tryz.f3 rfl rfl rfl rfl rfl rfl rfl ⟨rfl,rfl,rfl,rfl,rfl⟩ rfl rfl rfl rfl rfl (by kernel_rfl) Tryz.func3 (by kernel_rfl)
  (of_decide_eq_true (by kernel_rfl)) (by unfold Func.isWrapper;first | (rw[if_pos (by decide +kernel)];kernel_rfl) | (rw[if_neg (by decide +kernel)];exact⟨rfl,rfl⟩))
  (fun os started H enc _=>fsReads_lifted os started H enc)
theorem fsReads_holds : Rows.FsReadsCardSaid:=
 Claim7.holds_tied_plain_at .later [] [.data, .pinned] true (true, "005bd51f88f75cbf63fef63f8aa7dd26ef9e955a515778346b0d4c52a953a1ae") false fsReads_row (fun _ h => by cases h) (by kernel_rfl) (fun _ h => by cases h) fsReads_row_tie rfl ⟨rfl, rfl⟩ (by kernel_rfl) rfl
  (fun f fn hf hfn=>by
   obtain rfl : f = 3 := Option.some.inj ((show Tryz.prog.funcNamed "ringhall/ringkeep3.FsReads" = some 3 by kernel_rfl).symm.trans hf) |>.symm
   obtain rfl:fn=Tryz.f3:=(Option.some.inj (Tryz.func3.symm.trans hfn)).symm;exact⟨by kernel_rfl,fun j t ht=>by rw[Tryz.params3]at ht;have hm:t ∈ [22,23,3]:=(by have:=Array.mem_of_getElem? ht;simpa using this);have hall:([22,23,3].all fun u=> !Tryz.prog.wantsStandIn u)=true:=(by kernel_rfl);exact (show Tryz.prog.wantsStandIn t=false by simpa using List.all_eq_true.1 hall t hm)⟩)
  (by kernel_rfl)
end Go.Proofs.YtakfhadmokoikaaGreatDoor
