import Derived.Test.YtakfhadmokoikaaGreatDoorKA3
import Derived.Shelf.SlSortCmp.WholeK
import Derived.Shelf.SlSortCmp.NoneTotal
import Derived.Ground.SlsfProg
import Derived.Test.YtakfhadmokoikaaGreatDoorProg
set_option maxHeartbeats 0
set_option linter.all false
set_option maxRecDepth 100000
namespace Go.Proofs.YtakfhadmokoikaaGreatDoor
open Go.Proofs.Tryz Go.RowKit Go.Sort Go.Shelf
variable {cur:Array Value} {e:TypeId} {g k m:Nat} {os:Array Obj} {w:World}
abbrev jG:=@sizeOf299
abbrev jH:=@sizeOf298
abbrev jI:=@sizeOf285
abbrev jJ:=@sizeOf281
abbrev jK:=@sizeOf257
abbrev jL:=@sizeOf253
abbrev jM:=@sizeOf252
abbrev jN:=@sizeOf143
abbrev jO:=@sizeOf140
abbrev l3:=@zeroValue0
abbrev lX:=@zeroValue4
abbrev mL:=@zeroValue60
abbrev mM:=@underlying4
abbrev mO:=@underlying0
abbrev nB:=@zeroValue299
abbrev nC:=@zeroValue298
abbrev nF:=@zeroValue285
abbrev nG:=@zeroValue281
abbrev nH:=@zeroValue257
abbrev nI:=@zeroValue253
abbrev nJ:=@zeroValue252
abbrev nK:=@zeroValue143
abbrev nL:=@zeroValue140
abbrev nM:=@underlying60
abbrev oA:=@underlying281
abbrev oB:=@underlying257
abbrev oC:=@underlying253
abbrev oD:=@underlying252
abbrev oE:=@underlying143
abbrev oF:=@underlying140
abbrev ot:=@underlying299
abbrev ou:=@underlying298
abbrev oy:=@underlying285
theorem LN {α:Type} {enc:α->List Value} (b:∀x,(enc x).length=k) (l:List α):(l.flatMap enc).length=l.length*k:=by
 induction l with
 | nil=>simp
 | cons x l a=>rw[xA,zl,a,b,yz,qK];omega
section
variable {α : Type} [Inhabited α]
theorem Xh {enc:α->List Value} {k:Nat} (g:∀x,(enc x).length=k):∀(l:List α) (t:Nat),t<l.length*k->(l.flatMap enc)[t]?=some ((enc (l[t / k]?.getD default))[t%k]?.getD default)
 | [],t,h=>by simp at h
 | x::l,t,h=>by
  have b:0<k:=by
   rcases vh k with e|e
   .subst e;simp at h
   .exact e
  rw[xA];by_cases a:t<k
  .rw[zO (by rw[g];exact a),Nat.div_eq_of_lt a,vx a];have:t<(enc x).length:=(by rw[g];exact a);simp[zf this]
  .rw[zx (by rw[g];omega),g];have d:t-k<l.length*k:=(by rw[yz,qK]at h;omega);rw[Xh g l (t-k) d];have c:t / k=(t-k) / k+1:=by
    conv=>lhs;rw[show t=(t-k)+k by omega,Nat.add_div_right _ b]
   have f:t%k=(t-k)%k:=by
    conv=>lhs;rw[show t=(t-k)+k by omega,Nat.add_mod_right]
   rw[c,f,zk]
theorem JC {enc:α->List Value} (i:∀x,(enc x).length=k) (d:Array α):(flatK enc k d).toList=d.toList.flatMap enc:=by
 refine xS fun t=>?_;by_cases h:t<d.size*k
 .have g:=Xh i d.toList t (by simpa using h);rw[g];have a:=get_flatK enc k d t h;have c:t<(flatK enc k d).size:=by rw[size_flatK];exact h
  rw[ul _ t c]at a;rw[zP,xt c,a];have b:t / k<d.size:=by
   rcases vh k with e|e
   .subst e;simp at h
   .exact Nat.div_lt_of_lt_mul (by rw[nT];exact h)
  have f:d[t / k]! = d.toList[t / k]?.getD default:=by rw[ul d (t / k) b,zP,xt b];rfl
  rw[f]
  congr 1
  rw[List.getElem!_eq_getElem?_getD]
 .rw[yd (by have:=size_flatK enc k d;simp;omega),yd (by rw[LN i];simpa using h)]
theorem LE (F c:Array Value) (h:F.size<=c.size):((putCells id 0 F c).toList).take F.size=F.toList/\(putCells id 0 F c).size=c.size:=by
 refine⟨?_,by simp[putCells]⟩;refine tu (by simp[putCells];omega) fun t d a=>?_;have b:t<F.size:=by simpa using a
 rw[nV];simp[putCells,b]
theorem Kc {enc:α->List Value} (h:∀x,(enc x).length=k) {d:Array α} (f:w.heap[g]?=some (.cells cur e)) (i:cur.toList.take (d.size*k)=d.toList.flatMap enc):HoldsK enc k w g 0 d:=by
 intro j a;rw[size_flatK]at a;refine⟨?_,by simp[World.frozen?,f]⟩;rw[yL,zC f];have b:(flatK enc k d).toList[j]?=some ((flatK enc k d)[j]!):=by
  have c:j<(flatK enc k d).size:=by rw[size_flatK];exact a
  rw[zP,xt c,ul _ j c]
 rw[JC h,<-i,zI,ze a]at b;simpa using b
theorem KY {enc:α->List Value} (h:∀x,(enc x).length=k) {d:Array α} (f:w.heap[g]?=some (.cells cur e)) (i:d.size*k<=cur.size):
 ∃cur',(sortWorldK enc k w g 0 m d os).heap[g]?=some (.cells cur' e)/\cur'.size=cur.size/\cur'.toList.take (d.size*k)=d.toList.flatMap enc:=by
 have b:=xL f;obtain⟨a,c⟩:=LE (flatK enc k d) cur (by rw[size_flatK];exact i);refine⟨putCells id 0 (flatK enc k d) cur,?_,c,?_⟩
 .unfold sortWorldK grow putRowK putRow mapBlock;rw[jU (by simpa using b),qa];simp[f,onCells]
 .rw[size_flatK]at a;rw[a,JC h]
theorem LA {enc:α->List Value} {d:Array α} {i:Nat} (b:i<w.heap.size) (a:i≠g):(sortWorldK enc k w g 0 m d os).heap[i]?=w.heap[i]? :=by unfold sortWorldK grow putRowK putRow mapBlock;rw[jU (by simpa using b),qa,zb (yF a)];simp
theorem KX {enc:α->List Value} {d:Array α} :w.grownBy (sortWorldK enc k w g 0 m d os) (some g):=
 ⟨rfl,rfl,rfl,size_sortWorldK_c enc k w g 0 m d os,fun i b a=>LA b fun e=>a (by rw[e])⟩
end
end Go.Proofs.YtakfhadmokoikaaGreatDoor
namespace Go.Proofs.YtakfhadmokoikaaGreatDoor
open Go.Proofs.Tryz Go.Shelf
def Tryz.laysSortE_ren : Go.Shelf.Ren:=⟨fun|6=>203|15=>137|14=>227|28=>178|29=>179|20=>235|21=>236|22=>237|23=>238|24=>239|25=>240|26=>241|27=>242|46=>254|47=>212|48=>213|49=>255|50=>256|57=>264|n=>n,fun|22=>184|24=>188|25=>276|3=>3|39=>60|0=>0|53=>140|55=>143|4=>4|46=>253|45=>252|50=>257|5=>5|9=>9|66=>281|70=>285|76=>298|77=>299|n=>n,fun|n=>n⟩
theorem Tryz.laysSortE: Go.Proofs.SlLaysF0.n6 prog Tryz.laysSortE_ren:={
 mixed:=by kernel_rfl,
 f6 := ⟨ "slices.SortFunc[[]ringhall/api.Entry,ringhall/api.Entry]", by decide, func203.trans (congrArg some (by kernel_rfl))⟩,
 f14 := ⟨ "slices.pdqsortCmpFunc[ringhall/api.Entry]", by decide, func227.trans (congrArg some (by kernel_rfl))⟩,
 f15:=func137.trans (congrArg some (by kernel_rfl)),
 f20 := ⟨ "slices.insertionSortCmpFunc[ringhall/api.Entry]", by decide, func235.trans (congrArg some (by kernel_rfl))⟩,
 f21 := ⟨ "slices.heapSortCmpFunc[ringhall/api.Entry]", by decide, func236.trans (congrArg some (by kernel_rfl))⟩,
 f22 := ⟨ "slices.breakPatternsCmpFunc[ringhall/api.Entry]", by decide, func237.trans (congrArg some (by kernel_rfl))⟩,
 f23 := ⟨ "slices.choosePivotCmpFunc[ringhall/api.Entry]", by decide, func238.trans (congrArg some (by kernel_rfl))⟩,
 f24 := ⟨ "slices.reverseRangeCmpFunc[ringhall/api.Entry]", by decide, func239.trans (congrArg some (by kernel_rfl))⟩,
 f25 := ⟨ "slices.partialInsertionSortCmpFunc[ringhall/api.Entry]", by decide, func240.trans (congrArg some (by kernel_rfl))⟩,
 f26 := ⟨ "slices.partitionEqualCmpFunc[ringhall/api.Entry]", by decide, func241.trans (congrArg some (by kernel_rfl))⟩,
 f27 := ⟨ "slices.partitionCmpFunc[ringhall/api.Entry]", by decide, func242.trans (congrArg some (by kernel_rfl))⟩,
 f28:=func178.trans (congrArg some (by kernel_rfl)),
 f29:=func179.trans (congrArg some (by kernel_rfl)),
 f46 := ⟨ "slices.siftDownCmpFunc[ringhall/api.Entry]", by decide, func254.trans (congrArg some (by kernel_rfl))⟩,
 f47:=func212.trans (congrArg some (by kernel_rfl)),
 f48:=func213.trans (congrArg some (by kernel_rfl)),
 f49 := ⟨ "slices.medianAdjacentCmpFunc[ringhall/api.Entry]", by decide, func255.trans (congrArg some (by kernel_rfl))⟩,
 f50 := ⟨ "slices.medianCmpFunc[ringhall/api.Entry]", by decide, func256.trans (congrArg some (by kernel_rfl))⟩,
 f57 := ⟨ "slices.order2CmpFunc[ringhall/api.Entry]", by decide, func264.trans (congrArg some (by kernel_rfl))⟩,
 t0:=mO,
 a0:=isAgg0,
 z0:=sizeOf0,
 v0:=l3,
 t3:=underlying3,
 a3:=isAgg3,
 z3:=sizeOf3,
 v3:=zeroValue3,
 t4:=mM,
 a4:=isAgg4,
 z4:=sizeOf4,
 v4:=lX,
 t5:=underlying5,
 a5:=isAgg5,
 z5:=sizeOf5,
 v5:=zeroValue5,
 t9:=underlying9,
 a9:=isAgg9,
 z9:=sizeOf9,
 v9:=zeroValue9,
 t22:=underlying184,
 a22:=isAgg184,
 z22:=sizeOf184,
 v22:=zeroValue184,
 t25:=underlying276,
 a25:=isAgg276,
 z25:=sizeOf276,
 v25:=zeroValue276,
 t39:=nM,
 a39:=isAgg60,
 z39:=sizeOf60,
 v39:=mL,
 t45:=oD,
 a45:=isAgg252,
 z45:=jM,
 v45:=nJ,
 t46:=oC,
 a46:=isAgg253,
 z46:=jL,
 v46:=nI,
 t50:=oB,
 a50:=isAgg257,
 z50:=jK,
 v50:=nH,
 t53:=oF,
 a53:=isAgg140,
 z53:=jO,
 v53:=nL,
 t55:=oE,
 a55:=isAgg143,
 z55:=jN,
 v55:=nK,
 t66:=oA,
 a66:=isAgg281,
 z66:=jJ,
 v66:=nG,
 t70:=oy,
 a70:=isAgg285,
 z70:=jI,
 v70:=nF,
 t76:=ou,
 a76:=isAgg298,
 z76:=jH,
 v76:=nC,
 t77:=ot,
 a77:=isAgg299,
 z77:=jG,
 v77:=nB}
def Tryz.laysSortR_ren : Go.Shelf.Ren:=⟨fun|6=>208|15=>137|14=>228|28=>178|29=>179|20=>243|21=>244|22=>245|23=>246|24=>247|25=>248|26=>249|27=>250|46=>257|47=>212|48=>213|49=>258|50=>259|57=>265|n=>n,fun|22=>161|24=>165|25=>280|3=>3|39=>60|0=>0|53=>140|55=>143|4=>4|46=>253|45=>252|50=>257|5=>5|9=>9|66=>281|70=>285|76=>298|77=>299|n=>n,fun|n=>n⟩
theorem Tryz.laysSortR: Go.Proofs.SlLaysF0.n6 prog Tryz.laysSortR_ren:={
 mixed:=by kernel_rfl,
 f6 := ⟨ "slices.SortFunc[[]ringhall/lift.Req,ringhall/lift.Req]", by decide, func208.trans (congrArg some (by kernel_rfl))⟩,
 f14 := ⟨ "slices.pdqsortCmpFunc[ringhall/lift.Req]", by decide, func228.trans (congrArg some (by kernel_rfl))⟩,
 f15:=func137.trans (congrArg some (by kernel_rfl)),
 f20 := ⟨ "slices.insertionSortCmpFunc[ringhall/lift.Req]", by decide, func243.trans (congrArg some (by kernel_rfl))⟩,
 f21 := ⟨ "slices.heapSortCmpFunc[ringhall/lift.Req]", by decide, func244.trans (congrArg some (by kernel_rfl))⟩,
 f22 := ⟨ "slices.breakPatternsCmpFunc[ringhall/lift.Req]", by decide, func245.trans (congrArg some (by kernel_rfl))⟩,
 f23 := ⟨ "slices.choosePivotCmpFunc[ringhall/lift.Req]", by decide, func246.trans (congrArg some (by kernel_rfl))⟩,
 f24 := ⟨ "slices.reverseRangeCmpFunc[ringhall/lift.Req]", by decide, func247.trans (congrArg some (by kernel_rfl))⟩,
 f25 := ⟨ "slices.partialInsertionSortCmpFunc[ringhall/lift.Req]", by decide, func248.trans (congrArg some (by kernel_rfl))⟩,
 f26 := ⟨ "slices.partitionEqualCmpFunc[ringhall/lift.Req]", by decide, func249.trans (congrArg some (by kernel_rfl))⟩,
 f27 := ⟨ "slices.partitionCmpFunc[ringhall/lift.Req]", by decide, func250.trans (congrArg some (by kernel_rfl))⟩,
 f28:=func178.trans (congrArg some (by kernel_rfl)),
 f29:=func179.trans (congrArg some (by kernel_rfl)),
 f46 := ⟨ "slices.siftDownCmpFunc[ringhall/lift.Req]", by decide, func257.trans (congrArg some (by kernel_rfl))⟩,
 f47:=func212.trans (congrArg some (by kernel_rfl)),
 f48:=func213.trans (congrArg some (by kernel_rfl)),
 f49 := ⟨ "slices.medianAdjacentCmpFunc[ringhall/lift.Req]", by decide, func258.trans (congrArg some (by kernel_rfl))⟩,
 f50 := ⟨ "slices.medianCmpFunc[ringhall/lift.Req]", by decide, func259.trans (congrArg some (by kernel_rfl))⟩,
 f57 := ⟨ "slices.order2CmpFunc[ringhall/lift.Req]", by decide, func265.trans (congrArg some (by kernel_rfl))⟩,
 t0:=mO,
 a0:=isAgg0,
 z0:=sizeOf0,
 v0:=l3,
 t3:=underlying3,
 a3:=isAgg3,
 z3:=sizeOf3,
 v3:=zeroValue3,
 t4:=mM,
 a4:=isAgg4,
 z4:=sizeOf4,
 v4:=lX,
 t5:=underlying5,
 a5:=isAgg5,
 z5:=sizeOf5,
 v5:=zeroValue5,
 t9:=underlying9,
 a9:=isAgg9,
 z9:=sizeOf9,
 v9:=zeroValue9,
 t22:=underlying161,
 a22:=isAgg161,
 z22:=sizeOf161,
 v22:=zeroValue161,
 t25:=underlying280,
 a25:=isAgg280,
 z25:=sizeOf280,
 v25:=zeroValue280,
 t39:=nM,
 a39:=isAgg60,
 z39:=sizeOf60,
 v39:=mL,
 t45:=oD,
 a45:=isAgg252,
 z45:=jM,
 v45:=nJ,
 t46:=oC,
 a46:=isAgg253,
 z46:=jL,
 v46:=nI,
 t50:=oB,
 a50:=isAgg257,
 z50:=jK,
 v50:=nH,
 t53:=oF,
 a53:=isAgg140,
 z53:=jO,
 v53:=nL,
 t55:=oE,
 a55:=isAgg143,
 z55:=jN,
 v55:=nK,
 t66:=oA,
 a66:=isAgg281,
 z66:=jJ,
 v66:=nG,
 t70:=oy,
 a70:=isAgg285,
 z70:=jI,
 v70:=nF,
 t76:=ou,
 a76:=isAgg298,
 z76:=jH,
 v76:=nC,
 t77:=ot,
 a77:=isAgg299,
 z77:=jG,
 v77:=nB}
def Tryz.laysSortW_ren : Go.Shelf.Ren:=⟨fun|6=>96|15=>137|14=>136|28=>178|29=>179|20=>170|21=>171|22=>172|23=>173|24=>174|25=>175|26=>176|27=>177|46=>211|47=>212|48=>213|49=>214|50=>215|57=>229|n=>n,fun|22=>108|24=>163|25=>169|3=>3|39=>60|0=>0|53=>140|55=>143|4=>4|46=>253|45=>252|50=>257|5=>5|9=>9|66=>281|70=>285|76=>298|77=>299|n=>n,fun|n=>n⟩
theorem Tryz.laysSortW: Go.Proofs.SlLaysF0.n6 prog Tryz.laysSortW_ren:={
 mixed:=by kernel_rfl,
 f6 := ⟨ "slices.SortFunc[[]ringhall/journal.Write,ringhall/journal.Write]", by decide, func96.trans (congrArg some (by kernel_rfl))⟩,
 f14 := ⟨ "slices.pdqsortCmpFunc[ringhall/journal.Write]", by decide, func136.trans (congrArg some (by kernel_rfl))⟩,
 f15:=func137.trans (congrArg some (by kernel_rfl)),
 f20 := ⟨ "slices.insertionSortCmpFunc[ringhall/journal.Write]", by decide, func170.trans (congrArg some (by kernel_rfl))⟩,
 f21 := ⟨ "slices.heapSortCmpFunc[ringhall/journal.Write]", by decide, func171.trans (congrArg some (by kernel_rfl))⟩,
 f22 := ⟨ "slices.breakPatternsCmpFunc[ringhall/journal.Write]", by decide, func172.trans (congrArg some (by kernel_rfl))⟩,
 f23 := ⟨ "slices.choosePivotCmpFunc[ringhall/journal.Write]", by decide, func173.trans (congrArg some (by kernel_rfl))⟩,
 f24 := ⟨ "slices.reverseRangeCmpFunc[ringhall/journal.Write]", by decide, func174.trans (congrArg some (by kernel_rfl))⟩,
 f25 := ⟨ "slices.partialInsertionSortCmpFunc[ringhall/journal.Write]", by decide, func175.trans (congrArg some (by kernel_rfl))⟩,
 f26 := ⟨ "slices.partitionEqualCmpFunc[ringhall/journal.Write]", by decide, func176.trans (congrArg some (by kernel_rfl))⟩,
 f27 := ⟨ "slices.partitionCmpFunc[ringhall/journal.Write]", by decide, func177.trans (congrArg some (by kernel_rfl))⟩,
 f28:=func178.trans (congrArg some (by kernel_rfl)),
 f29:=func179.trans (congrArg some (by kernel_rfl)),
 f46 := ⟨ "slices.siftDownCmpFunc[ringhall/journal.Write]", by decide, func211.trans (congrArg some (by kernel_rfl))⟩,
 f47:=func212.trans (congrArg some (by kernel_rfl)),
 f48:=func213.trans (congrArg some (by kernel_rfl)),
 f49 := ⟨ "slices.medianAdjacentCmpFunc[ringhall/journal.Write]", by decide, func214.trans (congrArg some (by kernel_rfl))⟩,
 f50 := ⟨ "slices.medianCmpFunc[ringhall/journal.Write]", by decide, func215.trans (congrArg some (by kernel_rfl))⟩,
 f57 := ⟨ "slices.order2CmpFunc[ringhall/journal.Write]", by decide, func229.trans (congrArg some (by kernel_rfl))⟩,
 t0:=mO,
 a0:=isAgg0,
 z0:=sizeOf0,
 v0:=l3,
 t3:=underlying3,
 a3:=isAgg3,
 z3:=sizeOf3,
 v3:=zeroValue3,
 t4:=mM,
 a4:=isAgg4,
 z4:=sizeOf4,
 v4:=lX,
 t5:=underlying5,
 a5:=isAgg5,
 z5:=sizeOf5,
 v5:=zeroValue5,
 t9:=underlying9,
 a9:=isAgg9,
 z9:=sizeOf9,
 v9:=zeroValue9,
 t22:=underlying108,
 a22:=isAgg108,
 z22:=sizeOf108,
 v22:=zeroValue108,
 t25:=underlying169,
 a25:=isAgg169,
 z25:=sizeOf169,
 v25:=zeroValue169,
 t39:=nM,
 a39:=isAgg60,
 z39:=sizeOf60,
 v39:=mL,
 t45:=oD,
 a45:=isAgg252,
 z45:=jM,
 v45:=nJ,
 t46:=oC,
 a46:=isAgg253,
 z46:=jL,
 v46:=nI,
 t50:=oB,
 a50:=isAgg257,
 z50:=jK,
 v50:=nH,
 t53:=oF,
 a53:=isAgg140,
 z53:=jO,
 v53:=nL,
 t55:=oE,
 a55:=isAgg143,
 z55:=jN,
 v55:=nK,
 t66:=oA,
 a66:=isAgg281,
 z66:=jJ,
 v66:=nG,
 t70:=oy,
 a70:=isAgg285,
 z70:=jI,
 v70:=nF,
 t76:=ou,
 a76:=isAgg298,
 z76:=jH,
 v76:=nC,
 t77:=ot,
 a77:=isAgg299,
 z77:=jG,
 v77:=nB}
