import Derived.Test.YtmanoiagchpelaaGreatDoorKA2
import Derived.Shelf.SlSortCmp.WholeK
import Derived.Shelf.SlSortCmp.NoneTotal
import Derived.Ground.SlsfProg
import Derived.Test.YtmanoiagchpelaaGreatDoorProg
set_option maxHeartbeats 0
set_option linter.all false
set_option maxRecDepth 100000
namespace Go.Proofs.YtmanoiagchpelaaGreatDoor
open Go.Proofs.Tryz Go.RowKit Go.Sort Go.Shelf
variable {cur:Array Value} {e:TypeId} {g k m:Nat} {os:Array Obj} {w:World}
abbrev j0:=@sizeOf289
abbrev j1:=@sizeOf285
abbrev j2:=@sizeOf261
abbrev j3:=@sizeOf257
abbrev j4:=@sizeOf253
abbrev j5:=@sizeOf252
abbrev j6:=@sizeOf196
abbrev jY:=@sizeOf307
abbrev jZ:=@sizeOf306
abbrev kg:=@zeroValue9
abbrev kh:=@zeroValue5
abbrev ki:=@zeroValue4
abbrev kj:=@zeroValue3
abbrev kp:=@zeroValue0
abbrev mS:=@zeroValue97
abbrev mT:=@underlying4
abbrev mU:=@underlying3
abbrev mV:=@underlying0
abbrev nC:=@zeroValue307
abbrev nF:=@zeroValue306
abbrev nG:=@zeroValue289
abbrev nH:=@zeroValue285
abbrev nI:=@zeroValue261
abbrev nJ:=@zeroValue257
abbrev nK:=@zeroValue253
abbrev nL:=@zeroValue252
abbrev nM:=@zeroValue196
abbrev nN:=@underlying97
abbrev oF:=@underlying307
abbrev oG:=@underlying306
abbrev oH:=@underlying289
abbrev oI:=@underlying285
abbrev oJ:=@underlying261
abbrev oK:=@underlying257
abbrev oL:=@underlying253
abbrev oM:=@underlying252
abbrev oN:=@underlying196
abbrev qQ:=@AnyQ.slices_SortFunc
abbrev sH:=@AnyF.slices_SortFunc_none
abbrev tG:=@underlying9
abbrev uI:=@underlying5
theorem fN {α:Type} {enc:α->List Value} (b:∀x,(enc x).length=k) (l:List α):(l.flatMap enc).length=l.length*k:=by
 induction l with
 | nil=>simp
 | cons x l a=>rw[xo,zm,a,b,yx,qL];omega
section
variable {α : Type} [Inhabited α]
theorem X2 {enc:α->List Value} {k:Nat} (g:∀x,(enc x).length=k):∀(l:List α) (t),t<l.length*k->(l.flatMap enc)[t]?=some ((enc (l[t / k]?.getD default))[t%k]?.getD default)
 | [],t,h=>by simp at h
 | x::l,t,h=>by
  have b:0<k:=by
   rcases vn k with e|e
   .subst e;simp at h
   .exact e
  rw[xo];by_cases a:t<k
  .rw[zX (by rw[g];exact a),Nat.div_eq_of_lt a,vz a];have:t<(enc x).length:=(by rw[g];exact a);simp[zh this]
  .rw[zy (by rw[g];omega),g];have d:t-k<l.length*k:=(by rw[yx,qL]at h;omega);rw[X2 g l (t-k) d];have c:t / k=(t-k) / k+1:=by
    conv=>lhs;rw[show t=(t-k)+k by omega,Nat.add_div_right _ b]
   have f:t%k=(t-k)%k:=by
    conv=>lhs;rw[show t=(t-k)+k by omega,Nat.add_mod_right]
   rw[c,f,zl]
theorem J9 {enc:α->List Value} (i:∀x,(enc x).length=k) (d):(flatK enc k d).toList=d.toList.flatMap enc:=by
 refine ww fun t=>?_;by_cases h:t<d.size*k
 .have g:=X2 i d.toList t (by simpa using h);rw[g];have a:=get_flatK enc k d t h;have c:t<(flatK enc k d).size:=by rw[size_flatK];exact h
  rw[us _ t c]at a;rw[zO,xL c,a];have b:t / k<d.size:=by
   rcases vn k with e|e
   .subst e;simp at h
   .exact Nat.div_lt_of_lt_mul (by rw[nT];exact h)
  have f:d[t / k]! = d.toList[t / k]?.getD default:=by rw[us d (t / k) b,zO,xL b];rfl
  rw[f]
  congr 1
  rw[List.getElem!_eq_getElem?_getD]
 .rw[yj (by have:=size_flatK enc k d;simp;omega),yj (by rw[fN i];simpa using h)]
theorem Kl (F c) (h:F.size<=c.size):((putCells id 0 F c).toList).take F.size=F.toList/\(putCells id 0 F c).size=c.size:=by
 refine⟨?_,by simp[putCells]⟩;refine tI (by simp[putCells];omega) fun t d a=>?_;have b:t<F.size:=by simpa using a
 rw[nV];simp[putCells,b]
theorem KK {enc:α->List Value} (h:∀x,(enc x).length=k) {d:Array α} (f:w.heap[g]?=some (.cells cur e)) (i:cur.toList.take (d.size*k)=d.toList.flatMap enc):HoldsK enc k w g 0 d:=by
 intro j a;rw[size_flatK]at a;refine⟨?_,by simp[World.frozen?,f]⟩;rw[yO,zC f];have b:(flatK enc k d).toList[j]?=some ((flatK enc k d)[j]!):=by
  have c:j<(flatK enc k d).size:=by rw[size_flatK];exact a
  rw[zO,xL c,us _ j c]
 rw[J9 h,<-i,zI,ze a]at b;simpa using b
theorem Ju {enc:α->List Value} (h:∀x,(enc x).length=k) {d:Array α} (f:w.heap[g]?=some (.cells cur e)) (i:d.size*k<=cur.size):
 ∃cur',(sortWorldK enc k w g 0 m d os).heap[g]?=some (.cells cur' e)/\cur'.size=cur.size/\cur'.toList.take (d.size*k)=d.toList.flatMap enc:=by
 have b:=xR f;obtain⟨a,c⟩:=Kl (flatK enc k d) cur (by rw[size_flatK];exact i);refine⟨putCells id 0 (flatK enc k d) cur,?_,c,?_⟩
 .unfold sortWorldK grow putRowK putRow mapBlock;rw[il (by simpa using b),qk];simp[f,onCells]
 .rw[size_flatK]at a;rw[a,J9 h]
theorem Kh {enc:α->List Value} {d:Array α} {i:Nat} (b:i<w.heap.size) (a:i≠g):(sortWorldK enc k w g 0 m d os).heap[i]?=w.heap[i]? :=by unfold sortWorldK grow putRowK putRow mapBlock;rw[il (by simpa using b),qk,zb (yA a)];simp
theorem Jt {enc:α->List Value} {d:Array α} :w.grownBy (sortWorldK enc k w g 0 m d os) (some g):=
 ⟨rfl,rfl,rfl,size_sortWorldK_c enc k w g 0 m d os,fun i b a=>Kh b fun e=>a (by rw[e])⟩
end
end Go.Proofs.YtmanoiagchpelaaGreatDoor
namespace Go.Proofs.YtmanoiagchpelaaGreatDoor
open Go.Proofs.Tryz Go.Shelf
def Tryz.laysSortE_ren : Go.Shelf.Ren:=⟨fun|6=>165|15=>156|14=>208|28=>198|29=>199|20=>236|21=>237|22=>238|23=>239|24=>240|25=>241|26=>242|27=>243|46=>255|47=>227|48=>228|49=>256|50=>257|57=>264|n=>n,fun|22=>42|24=>46|25=>229|3=>3|39=>97|0=>0|53=>196|55=>261|4=>4|46=>253|45=>252|50=>257|5=>5|9=>9|66=>285|70=>289|76=>306|77=>307|n=>n,fun|n=>n⟩
theorem Tryz.laysSortE: Go.Proofs.SlLaysF0.n6 prog Tryz.laysSortE_ren:={
 mixed:=by kernel_rfl,
 f6 := ⟨ "slices.SortFunc[[]ringhall/api.Entry,ringhall/api.Entry]", by decide, func165.trans (zV some (by kernel_rfl))⟩,
 f14 := ⟨ "slices.pdqsortCmpFunc[ringhall/api.Entry]", by decide, func208.trans (zV some (by kernel_rfl))⟩,
 f15:=func156.trans (zV some (by kernel_rfl)),
 f20 := ⟨ "slices.insertionSortCmpFunc[ringhall/api.Entry]", by decide, func236.trans (zV some (by kernel_rfl))⟩,
 f21 := ⟨ "slices.heapSortCmpFunc[ringhall/api.Entry]", by decide, func237.trans (zV some (by kernel_rfl))⟩,
 f22 := ⟨ "slices.breakPatternsCmpFunc[ringhall/api.Entry]", by decide, func238.trans (zV some (by kernel_rfl))⟩,
 f23 := ⟨ "slices.choosePivotCmpFunc[ringhall/api.Entry]", by decide, func239.trans (zV some (by kernel_rfl))⟩,
 f24 := ⟨ "slices.reverseRangeCmpFunc[ringhall/api.Entry]", by decide, func240.trans (zV some (by kernel_rfl))⟩,
 f25 := ⟨ "slices.partialInsertionSortCmpFunc[ringhall/api.Entry]", by decide, func241.trans (zV some (by kernel_rfl))⟩,
 f26 := ⟨ "slices.partitionEqualCmpFunc[ringhall/api.Entry]", by decide, func242.trans (zV some (by kernel_rfl))⟩,
 f27 := ⟨ "slices.partitionCmpFunc[ringhall/api.Entry]", by decide, func243.trans (zV some (by kernel_rfl))⟩,
 f28:=func198.trans (zV some (by kernel_rfl)),
 f29:=func199.trans (zV some (by kernel_rfl)),
 f46 := ⟨ "slices.siftDownCmpFunc[ringhall/api.Entry]", by decide, func255.trans (zV some (by kernel_rfl))⟩,
 f47:=func227.trans (zV some (by kernel_rfl)),
 f48:=func228.trans (zV some (by kernel_rfl)),
 f49 := ⟨ "slices.medianAdjacentCmpFunc[ringhall/api.Entry]", by decide, func256.trans (zV some (by kernel_rfl))⟩,
 f50 := ⟨ "slices.medianCmpFunc[ringhall/api.Entry]", by decide, func257.trans (zV some (by kernel_rfl))⟩,
 f57 := ⟨ "slices.order2CmpFunc[ringhall/api.Entry]", by decide, func264.trans (zV some (by kernel_rfl))⟩,
 t0:=mV,
 a0:=isAgg0,
 z0:=sizeOf0,
 v0:=kp,
 t3:=mU,
 a3:=isAgg3,
 z3:=sizeOf3,
 v3:=kj,
 t4:=mT,
 a4:=isAgg4,
 z4:=sizeOf4,
 v4:=ki,
 t5:=uI,
 a5:=isAgg5,
 z5:=sizeOf5,
 v5:=kh,
 t9:=tG,
 a9:=isAgg9,
 z9:=sizeOf9,
 v9:=kg,
 t22:=underlying42,
 a22:=isAgg42,
 z22:=sizeOf42,
 v22:=zeroValue42,
 t25:=underlying229,
 a25:=isAgg229,
 z25:=sizeOf229,
 v25:=zeroValue229,
 t39:=nN,
 a39:=isAgg97,
 z39:=sizeOf97,
 v39:=mS,
 t45:=oM,
 a45:=isAgg252,
 z45:=j5,
 v45:=nL,
 t46:=oL,
 a46:=isAgg253,
 z46:=j4,
 v46:=nK,
 t50:=oK,
 a50:=isAgg257,
 z50:=j3,
 v50:=nJ,
 t53:=oN,
 a53:=isAgg196,
 z53:=j6,
 v53:=nM,
 t55:=oJ,
 a55:=isAgg261,
 z55:=j2,
 v55:=nI,
 t66:=oI,
 a66:=isAgg285,
 z66:=j1,
 v66:=nH,
 t70:=oH,
 a70:=isAgg289,
 z70:=j0,
 v70:=nG,
 t76:=oG,
 a76:=isAgg306,
 z76:=jZ,
 v76:=nF,
 t77:=oF,
 a77:=isAgg307,
 z77:=jY,
 v77:=nC}
abbrev j9:=@Tryz.laysSortE
def Tryz.laysSortR_ren : Go.Shelf.Ren:=⟨fun|6=>245|15=>156|14=>258|28=>198|29=>199|20=>265|21=>266|22=>267|23=>268|24=>269|25=>270|26=>271|27=>272|46=>273|47=>227|48=>228|49=>274|50=>275|57=>276|n=>n,fun|22=>200|24=>204|25=>303|3=>3|39=>97|0=>0|53=>196|55=>261|4=>4|46=>253|45=>252|50=>257|5=>5|9=>9|66=>285|70=>289|76=>306|77=>307|n=>n,fun|n=>n⟩
theorem Tryz.laysSortR: Go.Proofs.SlLaysF0.n6 prog Tryz.laysSortR_ren:={
 mixed:=by kernel_rfl,
 f6 := ⟨ "slices.SortFunc[[]ringhall/lift.Req,ringhall/lift.Req]", by decide, func245.trans (zV some (by kernel_rfl))⟩,
 f14 := ⟨ "slices.pdqsortCmpFunc[ringhall/lift.Req]", by decide, func258.trans (zV some (by kernel_rfl))⟩,
 f15:=func156.trans (zV some (by kernel_rfl)),
 f20 := ⟨ "slices.insertionSortCmpFunc[ringhall/lift.Req]", by decide, func265.trans (zV some (by kernel_rfl))⟩,
 f21 := ⟨ "slices.heapSortCmpFunc[ringhall/lift.Req]", by decide, func266.trans (zV some (by kernel_rfl))⟩,
 f22 := ⟨ "slices.breakPatternsCmpFunc[ringhall/lift.Req]", by decide, func267.trans (zV some (by kernel_rfl))⟩,
 f23 := ⟨ "slices.choosePivotCmpFunc[ringhall/lift.Req]", by decide, func268.trans (zV some (by kernel_rfl))⟩,
 f24 := ⟨ "slices.reverseRangeCmpFunc[ringhall/lift.Req]", by decide, func269.trans (zV some (by kernel_rfl))⟩,
 f25 := ⟨ "slices.partialInsertionSortCmpFunc[ringhall/lift.Req]", by decide, func270.trans (zV some (by kernel_rfl))⟩,
 f26 := ⟨ "slices.partitionEqualCmpFunc[ringhall/lift.Req]", by decide, func271.trans (zV some (by kernel_rfl))⟩,
 f27 := ⟨ "slices.partitionCmpFunc[ringhall/lift.Req]", by decide, func272.trans (zV some (by kernel_rfl))⟩,
 f28:=func198.trans (zV some (by kernel_rfl)),
 f29:=func199.trans (zV some (by kernel_rfl)),
 f46 := ⟨ "slices.siftDownCmpFunc[ringhall/lift.Req]", by decide, func273.trans (zV some (by kernel_rfl))⟩,
 f47:=func227.trans (zV some (by kernel_rfl)),
 f48:=func228.trans (zV some (by kernel_rfl)),
 f49 := ⟨ "slices.medianAdjacentCmpFunc[ringhall/lift.Req]", by decide, func274.trans (zV some (by kernel_rfl))⟩,
 f50 := ⟨ "slices.medianCmpFunc[ringhall/lift.Req]", by decide, func275.trans (zV some (by kernel_rfl))⟩,
 f57 := ⟨ "slices.order2CmpFunc[ringhall/lift.Req]", by decide, func276.trans (zV some (by kernel_rfl))⟩,
 t0:=mV,
 a0:=isAgg0,
 z0:=sizeOf0,
 v0:=kp,
 t3:=mU,
 a3:=isAgg3,
 z3:=sizeOf3,
 v3:=kj,
 t4:=mT,
 a4:=isAgg4,
 z4:=sizeOf4,
 v4:=ki,
 t5:=uI,
 a5:=isAgg5,
 z5:=sizeOf5,
 v5:=kh,
 t9:=tG,
 a9:=isAgg9,
 z9:=sizeOf9,
 v9:=kg,
 t22:=underlying200,
 a22:=isAgg200,
 z22:=sizeOf200,
 v22:=zeroValue200,
 t25:=underlying303,
 a25:=isAgg303,
 z25:=sizeOf303,
 v25:=zeroValue303,
 t39:=nN,
 a39:=isAgg97,
 z39:=sizeOf97,
 v39:=mS,
 t45:=oM,
 a45:=isAgg252,
 z45:=j5,
 v45:=nL,
 t46:=oL,
 a46:=isAgg253,
 z46:=j4,
 v46:=nK,
 t50:=oK,
 a50:=isAgg257,
 z50:=j3,
 v50:=nJ,
 t53:=oN,
 a53:=isAgg196,
 z53:=j6,
 v53:=nM,
 t55:=oJ,
 a55:=isAgg261,
 z55:=j2,
 v55:=nI,
 t66:=oI,
 a66:=isAgg285,
 z66:=j1,
 v66:=nH,
 t70:=oH,
 a70:=isAgg289,
 z70:=j0,
 v70:=nG,
 t76:=oG,
 a76:=isAgg306,
 z76:=jZ,
 v76:=nF,
 t77:=oF,
 a77:=isAgg307,
 z77:=jY,
 v77:=nC}
abbrev j8:=@Tryz.laysSortR
def Tryz.laysSortW_ren : Go.Shelf.Ren:=⟨fun|6=>142|15=>156|14=>182|28=>198|29=>199|20=>217|21=>218|22=>219|23=>220|24=>221|25=>222|26=>223|27=>224|46=>248|47=>227|48=>228|49=>249|50=>250|57=>259|n=>n,fun|22=>146|24=>202|25=>208|3=>3|39=>97|0=>0|53=>196|55=>261|4=>4|46=>253|45=>252|50=>257|5=>5|9=>9|66=>285|70=>289|76=>306|77=>307|n=>n,fun|n=>n⟩
theorem Tryz.laysSortW: Go.Proofs.SlLaysF0.n6 prog Tryz.laysSortW_ren:={
 mixed:=by kernel_rfl,
 f6 := ⟨ "slices.SortFunc[[]ringhall/journal.Write,ringhall/journal.Write]", by decide, func142.trans (zV some (by kernel_rfl))⟩,
 f14 := ⟨ "slices.pdqsortCmpFunc[ringhall/journal.Write]", by decide, func182.trans (zV some (by kernel_rfl))⟩,
 f15:=func156.trans (zV some (by kernel_rfl)),
 f20 := ⟨ "slices.insertionSortCmpFunc[ringhall/journal.Write]", by decide, func217.trans (zV some (by kernel_rfl))⟩,
 f21 := ⟨ "slices.heapSortCmpFunc[ringhall/journal.Write]", by decide, func218.trans (zV some (by kernel_rfl))⟩,
 f22 := ⟨ "slices.breakPatternsCmpFunc[ringhall/journal.Write]", by decide, func219.trans (zV some (by kernel_rfl))⟩,
 f23 := ⟨ "slices.choosePivotCmpFunc[ringhall/journal.Write]", by decide, func220.trans (zV some (by kernel_rfl))⟩,
 f24 := ⟨ "slices.reverseRangeCmpFunc[ringhall/journal.Write]", by decide, func221.trans (zV some (by kernel_rfl))⟩,
 f25 := ⟨ "slices.partialInsertionSortCmpFunc[ringhall/journal.Write]", by decide, func222.trans (zV some (by kernel_rfl))⟩,
 f26 := ⟨ "slices.partitionEqualCmpFunc[ringhall/journal.Write]", by decide, func223.trans (zV some (by kernel_rfl))⟩,
 f27 := ⟨ "slices.partitionCmpFunc[ringhall/journal.Write]", by decide, func224.trans (zV some (by kernel_rfl))⟩,
 f28:=func198.trans (zV some (by kernel_rfl)),
 f29:=func199.trans (zV some (by kernel_rfl)),
 f46 := ⟨ "slices.siftDownCmpFunc[ringhall/journal.Write]", by decide, func248.trans (zV some (by kernel_rfl))⟩,
 f47:=func227.trans (zV some (by kernel_rfl)),
 f48:=func228.trans (zV some (by kernel_rfl)),
 f49 := ⟨ "slices.medianAdjacentCmpFunc[ringhall/journal.Write]", by decide, func249.trans (zV some (by kernel_rfl))⟩,
 f50 := ⟨ "slices.medianCmpFunc[ringhall/journal.Write]", by decide, func250.trans (zV some (by kernel_rfl))⟩,
 f57 := ⟨ "slices.order2CmpFunc[ringhall/journal.Write]", by decide, func259.trans (zV some (by kernel_rfl))⟩,
 t0:=mV,
 a0:=isAgg0,
 z0:=sizeOf0,
 v0:=kp,
 t3:=mU,
 a3:=isAgg3,
 z3:=sizeOf3,
 v3:=kj,
 t4:=mT,
 a4:=isAgg4,
 z4:=sizeOf4,
 v4:=ki,
 t5:=uI,
 a5:=isAgg5,
 z5:=sizeOf5,
 v5:=kh,
 t9:=tG,
 a9:=isAgg9,
 z9:=sizeOf9,
 v9:=kg,
 t22:=underlying146,
 a22:=isAgg146,
 z22:=sizeOf146,
 v22:=zeroValue146,
 t25:=underlying208,
 a25:=isAgg208,
 z25:=sizeOf208,
 v25:=zeroValue208,
 t39:=nN,
 a39:=isAgg97,
 z39:=sizeOf97,
 v39:=mS,
 t45:=oM,
 a45:=isAgg252,
 z45:=j5,
 v45:=nL,
 t46:=oL,
 a46:=isAgg253,
 z46:=j4,
 v46:=nK,
 t50:=oK,
 a50:=isAgg257,
 z50:=j3,
 v50:=nJ,
 t53:=oN,
 a53:=isAgg196,
 z53:=j6,
 v53:=nM,
 t55:=oJ,
 a55:=isAgg261,
 z55:=j2,
 v55:=nI,
 t66:=oI,
 a66:=isAgg285,
 z66:=j1,
 v66:=nH,
 t70:=oH,
 a70:=isAgg289,
 z70:=j0,
 v70:=nG,
 t76:=oG,
 a76:=isAgg306,
 z76:=jZ,
 v76:=nF,
 t77:=oF,
 a77:=isAgg307,
 z77:=jY,
 v77:=nC}
abbrev j7:=@Tryz.laysSortW
