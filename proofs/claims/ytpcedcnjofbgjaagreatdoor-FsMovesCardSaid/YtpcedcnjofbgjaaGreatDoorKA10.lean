import Derived.Test.YtpcedcnjofbgjaaGreatDoorKA2
import Derived.Shelf.SlSortCmp.WholeK
import Derived.Shelf.SlSortCmp.NoneTotal
import Derived.Ground.SlsfProg
set_option maxHeartbeats 0
set_option linter.all false
set_option maxRecDepth 100000
namespace Go.Proofs.YtpcedcnjofbgjaaGreatDoor
open Go.Proofs.Tryz Go.RowKit Go.Sort Go.Shelf
variable {cur:Array Value} {e:TypeId} {g k m:Nat} {os:Array Obj} {w:World}
abbrev sS:=@AnyQ.slices_SortFunc
abbrev tb:=@AnyF.slices_SortFunc_none
theorem Tu {α:Type} {enc:α->List Value} (b:∀x,(enc x).length=k) (l:List α):(l.flatMap enc).length=l.length*k:=by
 induction l with
 | nil=>simp
 | cons x l a=>rw[Nm,zl,a,b,yv,sO];omega
section
variable {α : Type} [Inhabited α]
theorem WH {enc:α->List Value} {k:Nat} (g:∀x,(enc x).length=k):∀(l:List α) (t),t<l.length*k->(l.flatMap enc)[t]?=some ((enc (l[t / k]?.getD default))[t%k]?.getD default)
 | [],t,h=>by simp at h
 | x::l,t,h=>by
  have b:0<k:=by
   rcases wM k with e|e
   .subst e;simp at h
   .exact e
  rw[Nm];by_cases a:t<k
  .rw[zV (by rw[g];exact a),Nat.div_eq_of_lt a,wz a];have:t<(enc x).length:=(by rw[g];exact a);simp[zk this]
  .rw[zx (by rw[g];omega),g];have d:t-k<l.length*k:=(by rw[yv,sO]at h;omega);rw[WH g l (t-k) d];have c:t / k=(t-k) / k+1:=by
    conv=>lhs;rw[show t=(t-k)+k by omega,Nat.add_div_right _ b]
   have f:t%k=(t-k)%k:=by
    conv=>lhs;rw[show t=(t-k)+k by omega,Nat.add_mod_right]
   rw[c,f,zh]
theorem hY {enc:α->List Value} (i:∀x,(enc x).length=k) (d):(flatK enc k d).toList=d.toList.flatMap enc:=by
 refine wV λt=>?_;by_cases h:t<d.size*k
 .have g:=WH i d.toList t (by simpa using h);rw[g];have a:=get_flatK enc k d t h;have c:t<(flatK enc k d).size:=by rw[size_flatK];exact h
  rw[vD _ t c]at a;rw[zK,xx c,a];have b:t / k<d.size:=by
   rcases wM k with e|e
   .subst e;simp at h
   .exact Nat.div_lt_of_lt_mul (by rw[pi];exact h)
  have f:d[t / k]! = d.toList[t / k]?.getD default:=by rw[vD d (t / k) b,zK,xx b];rfl
  rw[f]
  congr 1
  rw[List.getElem!_eq_getElem?_getD]
 .rw[yW (by have:=size_flatK enc k d;simp;omega),yW (by rw[Tu i];simpa using h)]
theorem n8 (F c) (h:F.size<=c.size):((putCells id 0 F c).toList).take F.size=F.toList/\(putCells id 0 F c).size=c.size:=by
 refine⟨?_,by simp[putCells]⟩;refine oL (by simp[putCells];omega) λt d a=>?_;have b:t<F.size:=by simpa using a
 rw[po];simp[putCells,b]
theorem mC {enc:α->List Value} (h:∀x,(enc x).length=k) {d:Array α} (f:w.heap[g]?=some (.cells cur e)) (i:cur.toList.take (d.size*k)=d.toList.flatMap enc):HoldsK enc k w g 0 d:=by
 intro j a;rw[size_flatK]at a;refine⟨?_,by simp[World.frozen?,f]⟩;rw[yF,zC f];have b:(flatK enc k d).toList[j]?=some ((flatK enc k d)[j]!):=by
  have c:j<(flatK enc k d).size:=by rw[size_flatK];exact a
  rw[zK,xx c,vD _ j c]
 rw[hY h,<-i,zI,ze a]at b;simpa using b
theorem gQ {enc:α->List Value} (h:∀x,(enc x).length=k) {d:Array α} (f:w.heap[g]?=some (.cells cur e)) (i:d.size*k<=cur.size):
 ∃cur',(sortWorldK enc k w g 0 m d os).heap[g]?=some (.cells cur' e)/\cur'.size=cur.size/\cur'.toList.take (d.size*k)=d.toList.flatMap enc:=by
 have b:=xB f;obtain⟨a,c⟩:=n8 (flatK enc k d) cur (by rw[size_flatK];exact i);refine⟨putCells id 0 (flatK enc k d) cur,?_,c,?_⟩
 .unfold sortWorldK grow putRowK putRow mapBlock;rw[lr (by simpa using b),Ci];simp[f,onCells]
 .rw[size_flatK]at a;rw[a,hY h]
theorem iH {enc:α->List Value} {d:Array α} {i:Nat} (b:i<w.heap.size) (a:i≠g):(sortWorldK enc k w g 0 m d os).heap[i]?=w.heap[i]? :=by unfold sortWorldK grow putRowK putRow mapBlock;rw[lr (by simpa using b),Ci,zb (yA a)];simp
theorem Zq {enc:α->List Value} {d:Array α} :w.grownBy (sortWorldK enc k w g 0 m d os) (some g):=
 ⟨rfl,rfl,rfl,size_sortWorldK_c enc k w g 0 m d os,λi b a=>iH b λe=>a (by rw[e])⟩
end
end Go.Proofs.YtpcedcnjofbgjaaGreatDoor
namespace Go.Proofs.YtpcedcnjofbgjaaGreatDoor
open Go.Proofs.Tryz Go.Shelf
def Tryz.laysSortE_ren : Go.Shelf.Ren:=⟨fun|6=>187|15=>138|14=>218|28=>178|29=>179|20=>230|21=>231|22=>232|23=>233|24=>234|25=>235|26=>236|27=>237|46=>243|47=>207|48=>208|49=>244|50=>245|57=>258|n=>n,fun|22=>108|24=>112|25=>255|3=>3|39=>105|0=>0|53=>176|55=>246|4=>4|46=>238|45=>237|50=>242|5=>5|9=>9|66=>267|70=>271|76=>287|77=>288|n=>n,fun|n=>n⟩
theorem Tryz.laysSortE: Go.Proofs.SlLaysF0.n6 prog Tryz.laysSortE_ren:={
 mixed:=by kernel_rfl,
 f6 := ⟨ "slices.SortFunc[[]ringhall/api.Entry,ringhall/api.Entry]", by decide, func187.trans (zQ some (by kernel_rfl))⟩,
 f14 := ⟨ "slices.pdqsortCmpFunc[ringhall/api.Entry]", by decide, func218.trans (zQ some (by kernel_rfl))⟩,
 f15:=func138.trans (zQ some (by kernel_rfl)),
 f20 := ⟨ "slices.insertionSortCmpFunc[ringhall/api.Entry]", by decide, func230.trans (zQ some (by kernel_rfl))⟩,
 f21 := ⟨ "slices.heapSortCmpFunc[ringhall/api.Entry]", by decide, func231.trans (zQ some (by kernel_rfl))⟩,
 f22 := ⟨ "slices.breakPatternsCmpFunc[ringhall/api.Entry]", by decide, func232.trans (zQ some (by kernel_rfl))⟩,
 f23 := ⟨ "slices.choosePivotCmpFunc[ringhall/api.Entry]", by decide, func233.trans (zQ some (by kernel_rfl))⟩,
 f24 := ⟨ "slices.reverseRangeCmpFunc[ringhall/api.Entry]", by decide, func234.trans (zQ some (by kernel_rfl))⟩,
 f25 := ⟨ "slices.partialInsertionSortCmpFunc[ringhall/api.Entry]", by decide, func235.trans (zQ some (by kernel_rfl))⟩,
 f26 := ⟨ "slices.partitionEqualCmpFunc[ringhall/api.Entry]", by decide, func236.trans (zQ some (by kernel_rfl))⟩,
 f27 := ⟨ "slices.partitionCmpFunc[ringhall/api.Entry]", by decide, func237.trans (zQ some (by kernel_rfl))⟩,
 f28:=func178.trans (zQ some (by kernel_rfl)),
 f29:=func179.trans (zQ some (by kernel_rfl)),
 f46 := ⟨ "slices.siftDownCmpFunc[ringhall/api.Entry]", by decide, func243.trans (zQ some (by kernel_rfl))⟩,
 f47:=func207.trans (zQ some (by kernel_rfl)),
 f48:=func208.trans (zQ some (by kernel_rfl)),
 f49 := ⟨ "slices.medianAdjacentCmpFunc[ringhall/api.Entry]", by decide, func244.trans (zQ some (by kernel_rfl))⟩,
 f50 := ⟨ "slices.medianCmpFunc[ringhall/api.Entry]", by decide, func245.trans (zQ some (by kernel_rfl))⟩,
 f57 := ⟨ "slices.order2CmpFunc[ringhall/api.Entry]", by decide, func258.trans (zQ some (by kernel_rfl))⟩,
 t0:=underlying0,
 a0:=isAgg0,
 z0:=sizeOf0,
 v0:=zeroValue0,
 t3:=underlying3,
 a3:=isAgg3,
 z3:=sizeOf3,
 v3:=zeroValue3,
 t4:=underlying4,
 a4:=isAgg4,
 z4:=sizeOf4,
 v4:=zeroValue4,
 t5:=underlying5,
 a5:=isAgg5,
 z5:=sizeOf5,
 v5:=zeroValue5,
 t9:=underlying9,
 a9:=isAgg9,
 z9:=sizeOf9,
 v9:=zeroValue9,
 t22:=underlying108,
 a22:=isAgg108,
 z22:=sizeOf108,
 v22:=zeroValue108,
 t25:=underlying255,
 a25:=isAgg255,
 z25:=sizeOf255,
 v25:=zeroValue255,
 t39:=underlying105,
 a39:=isAgg105,
 z39:=sizeOf105,
 v39:=zeroValue105,
 t45:=underlying237,
 a45:=isAgg237,
 z45:=sizeOf237,
 v45:=zeroValue237,
 t46:=underlying238,
 a46:=isAgg238,
 z46:=sizeOf238,
 v46:=zeroValue238,
 t50:=underlying242,
 a50:=isAgg242,
 z50:=sizeOf242,
 v50:=zeroValue242,
 t53:=underlying176,
 a53:=isAgg176,
 z53:=sizeOf176,
 v53:=zeroValue176,
 t55:=underlying246,
 a55:=isAgg246,
 z55:=sizeOf246,
 v55:=zeroValue246,
 t66:=underlying267,
 a66:=isAgg267,
 z66:=sizeOf267,
 v66:=zeroValue267,
 t70:=underlying271,
 a70:=isAgg271,
 z70:=sizeOf271,
 v70:=zeroValue271,
 t76:=underlying287,
 a76:=isAgg287,
 z76:=sizeOf287,
 v76:=zeroValue287,
 t77:=underlying288,
 a77:=isAgg288,
 z77:=sizeOf288,
 v77:=zeroValue288}
abbrev lk:=@Tryz.laysSortE
def Tryz.laysSortR_ren : Go.Shelf.Ren:=⟨fun|6=>219|15=>138|14=>238|28=>178|29=>179|20=>246|21=>247|22=>248|23=>249|24=>250|25=>251|26=>252|27=>253|46=>259|47=>207|48=>208|49=>260|50=>261|57=>262|n=>n,fun|22=>180|24=>184|25=>283|3=>3|39=>105|0=>0|53=>176|55=>246|4=>4|46=>238|45=>237|50=>242|5=>5|9=>9|66=>267|70=>271|76=>287|77=>288|n=>n,fun|n=>n⟩
theorem Tryz.laysSortR: Go.Proofs.SlLaysF0.n6 prog Tryz.laysSortR_ren:={
 mixed:=by kernel_rfl,
 f6 := ⟨ "slices.SortFunc[[]ringhall/lift.Req,ringhall/lift.Req]", by decide, func219.trans (zQ some (by kernel_rfl))⟩,
 f14 := ⟨ "slices.pdqsortCmpFunc[ringhall/lift.Req]", by decide, func238.trans (zQ some (by kernel_rfl))⟩,
 f15:=func138.trans (zQ some (by kernel_rfl)),
 f20 := ⟨ "slices.insertionSortCmpFunc[ringhall/lift.Req]", by decide, func246.trans (zQ some (by kernel_rfl))⟩,
 f21 := ⟨ "slices.heapSortCmpFunc[ringhall/lift.Req]", by decide, func247.trans (zQ some (by kernel_rfl))⟩,
 f22 := ⟨ "slices.breakPatternsCmpFunc[ringhall/lift.Req]", by decide, func248.trans (zQ some (by kernel_rfl))⟩,
 f23 := ⟨ "slices.choosePivotCmpFunc[ringhall/lift.Req]", by decide, func249.trans (zQ some (by kernel_rfl))⟩,
 f24 := ⟨ "slices.reverseRangeCmpFunc[ringhall/lift.Req]", by decide, func250.trans (zQ some (by kernel_rfl))⟩,
 f25 := ⟨ "slices.partialInsertionSortCmpFunc[ringhall/lift.Req]", by decide, func251.trans (zQ some (by kernel_rfl))⟩,
 f26 := ⟨ "slices.partitionEqualCmpFunc[ringhall/lift.Req]", by decide, func252.trans (zQ some (by kernel_rfl))⟩,
 f27 := ⟨ "slices.partitionCmpFunc[ringhall/lift.Req]", by decide, func253.trans (zQ some (by kernel_rfl))⟩,
 f28:=func178.trans (zQ some (by kernel_rfl)),
 f29:=func179.trans (zQ some (by kernel_rfl)),
 f46 := ⟨ "slices.siftDownCmpFunc[ringhall/lift.Req]", by decide, func259.trans (zQ some (by kernel_rfl))⟩,
 f47:=func207.trans (zQ some (by kernel_rfl)),
 f48:=func208.trans (zQ some (by kernel_rfl)),
 f49 := ⟨ "slices.medianAdjacentCmpFunc[ringhall/lift.Req]", by decide, func260.trans (zQ some (by kernel_rfl))⟩,
 f50 := ⟨ "slices.medianCmpFunc[ringhall/lift.Req]", by decide, func261.trans (zQ some (by kernel_rfl))⟩,
 f57 := ⟨ "slices.order2CmpFunc[ringhall/lift.Req]", by decide, func262.trans (zQ some (by kernel_rfl))⟩,
 t0:=underlying0,
 a0:=isAgg0,
 z0:=sizeOf0,
 v0:=zeroValue0,
 t3:=underlying3,
 a3:=isAgg3,
 z3:=sizeOf3,
 v3:=zeroValue3,
 t4:=underlying4,
 a4:=isAgg4,
 z4:=sizeOf4,
 v4:=zeroValue4,
 t5:=underlying5,
 a5:=isAgg5,
 z5:=sizeOf5,
 v5:=zeroValue5,
 t9:=underlying9,
 a9:=isAgg9,
 z9:=sizeOf9,
 v9:=zeroValue9,
 t22:=underlying180,
 a22:=isAgg180,
 z22:=sizeOf180,
 v22:=zeroValue180,
 t25:=underlying283,
 a25:=isAgg283,
 z25:=sizeOf283,
 v25:=zeroValue283,
 t39:=underlying105,
 a39:=isAgg105,
 z39:=sizeOf105,
 v39:=zeroValue105,
 t45:=underlying237,
 a45:=isAgg237,
 z45:=sizeOf237,
 v45:=zeroValue237,
 t46:=underlying238,
 a46:=isAgg238,
 z46:=sizeOf238,
 v46:=zeroValue238,
 t50:=underlying242,
 a50:=isAgg242,
 z50:=sizeOf242,
 v50:=zeroValue242,
 t53:=underlying176,
 a53:=isAgg176,
 z53:=sizeOf176,
 v53:=zeroValue176,
 t55:=underlying246,
 a55:=isAgg246,
 z55:=sizeOf246,
 v55:=zeroValue246,
 t66:=underlying267,
 a66:=isAgg267,
 z66:=sizeOf267,
 v66:=zeroValue267,
 t70:=underlying271,
 a70:=isAgg271,
 z70:=sizeOf271,
 v70:=zeroValue271,
 t76:=underlying287,
 a76:=isAgg287,
 z76:=sizeOf287,
 v76:=zeroValue287,
 t77:=underlying288,
 a77:=isAgg288,
 z77:=sizeOf288,
 v77:=zeroValue288}
abbrev lj:=@Tryz.laysSortR
def Tryz.laysSortW_ren : Go.Shelf.Ren:=⟨fun|6=>120|15=>138|14=>159|28=>178|29=>179|20=>196|21=>197|22=>198|23=>199|24=>200|25=>201|26=>202|27=>203|46=>222|47=>207|48=>208|49=>223|50=>224|57=>239|n=>n,fun|22=>131|24=>182|25=>188|3=>3|39=>105|0=>0|53=>176|55=>246|4=>4|46=>238|45=>237|50=>242|5=>5|9=>9|66=>267|70=>271|76=>287|77=>288|n=>n,fun|n=>n⟩
theorem Tryz.laysSortW: Go.Proofs.SlLaysF0.n6 prog Tryz.laysSortW_ren:={
 mixed:=by kernel_rfl,
 f6 := ⟨ "slices.SortFunc[[]ringhall/journal.Write,ringhall/journal.Write]", by decide, func120.trans (zQ some (by kernel_rfl))⟩,
 f14 := ⟨ "slices.pdqsortCmpFunc[ringhall/journal.Write]", by decide, func159.trans (zQ some (by kernel_rfl))⟩,
 f15:=func138.trans (zQ some (by kernel_rfl)),
 f20 := ⟨ "slices.insertionSortCmpFunc[ringhall/journal.Write]", by decide, func196.trans (zQ some (by kernel_rfl))⟩,
 f21 := ⟨ "slices.heapSortCmpFunc[ringhall/journal.Write]", by decide, func197.trans (zQ some (by kernel_rfl))⟩,
 f22 := ⟨ "slices.breakPatternsCmpFunc[ringhall/journal.Write]", by decide, func198.trans (zQ some (by kernel_rfl))⟩,
 f23 := ⟨ "slices.choosePivotCmpFunc[ringhall/journal.Write]", by decide, func199.trans (zQ some (by kernel_rfl))⟩,
 f24 := ⟨ "slices.reverseRangeCmpFunc[ringhall/journal.Write]", by decide, func200.trans (zQ some (by kernel_rfl))⟩,
 f25 := ⟨ "slices.partialInsertionSortCmpFunc[ringhall/journal.Write]", by decide, func201.trans (zQ some (by kernel_rfl))⟩,
 f26 := ⟨ "slices.partitionEqualCmpFunc[ringhall/journal.Write]", by decide, func202.trans (zQ some (by kernel_rfl))⟩,
 f27 := ⟨ "slices.partitionCmpFunc[ringhall/journal.Write]", by decide, func203.trans (zQ some (by kernel_rfl))⟩,
 f28:=func178.trans (zQ some (by kernel_rfl)),
 f29:=func179.trans (zQ some (by kernel_rfl)),
 f46 := ⟨ "slices.siftDownCmpFunc[ringhall/journal.Write]", by decide, func222.trans (zQ some (by kernel_rfl))⟩,
 f47:=func207.trans (zQ some (by kernel_rfl)),
 f48:=func208.trans (zQ some (by kernel_rfl)),
 f49 := ⟨ "slices.medianAdjacentCmpFunc[ringhall/journal.Write]", by decide, func223.trans (zQ some (by kernel_rfl))⟩,
 f50 := ⟨ "slices.medianCmpFunc[ringhall/journal.Write]", by decide, func224.trans (zQ some (by kernel_rfl))⟩,
 f57 := ⟨ "slices.order2CmpFunc[ringhall/journal.Write]", by decide, func239.trans (zQ some (by kernel_rfl))⟩,
 t0:=underlying0,
 a0:=isAgg0,
 z0:=sizeOf0,
 v0:=zeroValue0,
 t3:=underlying3,
 a3:=isAgg3,
 z3:=sizeOf3,
 v3:=zeroValue3,
 t4:=underlying4,
 a4:=isAgg4,
 z4:=sizeOf4,
 v4:=zeroValue4,
 t5:=underlying5,
 a5:=isAgg5,
 z5:=sizeOf5,
 v5:=zeroValue5,
 t9:=underlying9,
 a9:=isAgg9,
 z9:=sizeOf9,
 v9:=zeroValue9,
 t22:=underlying131,
 a22:=isAgg131,
 z22:=sizeOf131,
 v22:=zeroValue131,
 t25:=underlying188,
 a25:=isAgg188,
 z25:=sizeOf188,
 v25:=zeroValue188,
 t39:=underlying105,
 a39:=isAgg105,
 z39:=sizeOf105,
 v39:=zeroValue105,
 t45:=underlying237,
 a45:=isAgg237,
 z45:=sizeOf237,
 v45:=zeroValue237,
 t46:=underlying238,
 a46:=isAgg238,
 z46:=sizeOf238,
 v46:=zeroValue238,
 t50:=underlying242,
 a50:=isAgg242,
 z50:=sizeOf242,
 v50:=zeroValue242,
 t53:=underlying176,
 a53:=isAgg176,
 z53:=sizeOf176,
 v53:=zeroValue176,
 t55:=underlying246,
 a55:=isAgg246,
 z55:=sizeOf246,
 v55:=zeroValue246,
 t66:=underlying267,
 a66:=isAgg267,
 z66:=sizeOf267,
 v66:=zeroValue267,
 t70:=underlying271,
 a70:=isAgg271,
 z70:=sizeOf271,
 v70:=zeroValue271,
 t76:=underlying287,
 a76:=isAgg287,
 z76:=sizeOf287,
 v76:=zeroValue287,
 t77:=underlying288,
 a77:=isAgg288,
 z77:=sizeOf288,
 v77:=zeroValue288}
abbrev li:=@Tryz.laysSortW
