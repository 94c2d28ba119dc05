/- FsMoves: for all calls, places and names the statement returns true and leaves its arguments alone; the card: what its code names of the library's tables is as the program's text lays it. No other condition. -/
import Derived.Test.YtpcedcnjofbgjaaGreatDoorKC6
import Derived.Test.YtpcedcnjofbgjaaGreatDoorKC8
import Derived.Test.YtpcedcnjofbgjaaGreatDoorKC16
import Derived.Test.YtpcedcnjofbgjaaGreatDoorKC17
import Derived.Test.YtpcedcnjofbgjaaGreatDoorKC18
import Derived.Test.YtpcedcnjofbgjaaGreatDoorCards
import Derived.Test.YtpcedcnjofbgjaaGreatDoorTie
import Derived.OpenShut
import Derived.LaidMore
import Derived.Lay
import Derived.Stop.Joined
import Derived.ChangeMaps5
namespace Go.Proofs.YtpcedcnjofbgjaaGreatDoor
open Go.ChangeShapes Go.WideShapes Go.ChangeAt Go.RowKit Go.ChangeMaps
set_option maxRecDepth 100000 in
theorem fsMoves_lifted (os:Os) (started:os.Started) (H:Type) (enc':TypeId × Value->H):
 ReturnsInHanded {} Tryz.checked os 5 .any (λw args=>(Rows.fsMovesSpec.pre enc' Tryz.prog Tryz.f5 Rows.fsMovesRow.domain false w args/\laidMetH Tryz.prog Rows.fsMovesRow.laid w)/\sizedMet enc' Tryz.prog Tryz.f5 (OpenSpec.ofChange Rows.fsMovesSpec) false w args) (Rows.fsMovesSpec.post enc' Tryz.prog Tryz.f5 false true false false):=by
 refine returnsInHanded_of_change_and (C:=Tryz.checked) (X:=λw _=>laidMetH Tryz.prog Rows.fsMovesRow.laid w) (λ_ _ _ hh h=>h.of_heap hh) Tryz.own started (by kernel_rfl) Tryz.func5
  (ChangeSpec.witness_shaped (enc:=enc') (C:=Tryz.checked) (os:=os) (X:=λw _=>laidMetH Tryz.prog Rows.fsMovesRow.laid w) false (World.laidAll Tryz.prog os Rows.fsMovesRow.laid) #[(.slice none 0 0),(.int .i64 0),(.int .i64 0),(.int .i64 0),(.int .i64 0)] 8 (World.laidAll_os _ _ _)
   (World.shaped_of_ZipB (by kernel_rfl) (by kernel_rfl)) (by kernel_rfl) (by kernel_rfl) (by kernel_rfl)
   (by rw[MakeChecks.laidMetH_plain _ _ _ (by kernel_rfl)];exact laidMet_laidAll _ (by kernel_rfl) (by kernel_rfl))) ?_
 intro W base args ds gs before hval0 hW _ _ _ _;have hval:∀ (j:Nat) t v,Tryz.f5.params[j]? = some t->args[j]? = some v->Value.okWide Tryz.prog W .any base t v:=hval0;have hW':=hW;obtain⟨p,q,hA0,hV,rfl,_,_⟩:=hW;have hA:DataW.TrodAll enc' Tryz.prog W 0 (λ_=>true) true Tryz.f5.params.toList args.toList ds p:=hA0;rw[Tryz.params5]at hA hval;obtain⟨v0,v1,v2,v3,v4,d0,d1,d2,d3,d4,p0,p1,p2,p3,p4,rfl,rfl,rfl,h0,h1,h2,h3,h4⟩:=ybjb hA;obtain⟨rfl,rfl⟩:=trodVars_none hV;obtain⟨l0,hI0,hM0,hx0⟩:=qlm (P:=Tryz.prog) Tryz.underlying22 Tryz.underlying30 (by kernel_rfl) rfl rfl rfl rfl rfl (by kernel_rfl) (by kernel_rfl) (by kernel_rfl) (by kernel_rfl) (by kernel_rfl) (by kernel_rfl) (by kernel_rfl) (by kernel_rfl) (by kernel_rfl) (by kernel_rfl) (hval 0 22 v0 rfl rfl) h0;obtain⟨n1,rfl,_,_,hw1⟩:=open_int Tryz.underlying3 (hval 1 3 v1 rfl rfl) h1;obtain⟨n2,rfl,_,_,hw2⟩:=open_int Tryz.underlying3 (hval 2 3 v2 rfl rfl) h2;obtain⟨n3,rfl,_,_,hw3⟩:=open_int Tryz.underlying3 (hval 3 3 v3 rfl rfl) h3;obtain⟨n4,rfl,_,_,hw4⟩:=open_int Tryz.underlying3 (hval 4 3 v4 rfl rfl) h4;clear hA0 hval0;refine (ybyk _ l0 n1 n2 n3 n4 W hI0 hM0 hx0).mono λe W' ⟨he,hw⟩=>?_;subst he;exact⟨_,rfl,qvi 4 Tryz.laidOut (by kernel_rfl) rfl rfl Tryz.underlying4 hW' rfl hw⟩
theorem fsMoves_row : Rows.FsMovesSaid:=
 OpenClaim.holds_of_wide 5 Tryz.f5 rfl rfl rfl rfl rfl rfl rfl ⟨rfl,rfl,rfl,rfl,rfl⟩ rfl rfl rfl rfl rfl ybaj Tryz.func5 ybra
  (of_decide_eq_true (by kernel_rfl)) (by unfold Func.isWrapper;first | (rw[if_pos (by decide +kernel)];kernel_rfl) | (rw[if_neg (by decide +kernel)];exact⟨rfl,rfl⟩))
  (λos started H enc _=>fsMoves_lifted os started H enc)
theorem fsMoves_holds : Rows.FsMovesCardSaid:=
 Claim7.holds_tied_plain_at .later [] [.data, .pinned] true (true, "aa5b8263b4248a5926d7d89bc2f6e480d4eefba66160f7e438a877409fd4f0a9") false fsMoves_row (λ_ h => by cases h) ybrb (λ_ h => by cases h) fsMoves_row_tie rfl ⟨rfl, rfl⟩ ybrc rfl
  (λf fn hf hfn=>by obtain rfl:f=5:=Option.some.inj (ybaj.symm.trans hf) |>.symm;obtain rfl:fn=Tryz.f5:=(Option.some.inj (Tryz.func5.symm.trans hfn)).symm;exact⟨ybre,λj t ht=>by rw[Tryz.params5]at ht;have hm:t ∈ [22,3]:=(by have:=Array.mem_of_getElem? ht;simpa using this);have hall:([22,3].all λu=> !Tryz.prog.wantsStandIn u)=true:=(by kernel_rfl);exact (show Tryz.prog.wantsStandIn t=false by simpa using List.all_eq_true.1 hall t hm)⟩)
  ybrd
