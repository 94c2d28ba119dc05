/- The library's contracts, laid at this program: written by gen_shelf.py. -/
import Derived.Shelf.SlicesQ.Reverse
import Derived.Shelf.SlicesQ.Contains
import Derived.Ground.SlgnProg
import Derived.Ground.SlgqProg
import Derived.Test.YtheiaebmemcbhaaDoorProg
namespace Go.Proofs.YtheiaebmemcbhaaDoor
open Go.Shelf

def Tryd.laysRev_ren : Go.Shelf.Ren := ⟨fun | 35 => 17 | n => n, fun | 22 => 22 | 23 => 33 | 3 => 3 | 4 => 4 | 0 => 0 | n => n, fun | n => n⟩

theorem Tryd.laysRev : Go.Proofs.SlLaysE0.n35 Tryd.prog Tryd.laysRev_ren := {
  mixed := by kernel_rfl,
  f35 := ⟨ "slices.Reverse[[]ringhall/api.Entry,ringhall/api.Entry]", by decide, Tryd.func17.trans (congrArg some (by kernel_rfl))⟩,
  t0 := Tryd.underlying0,
  a0 := Tryd.isAgg0,
  z0 := Tryd.sizeOf0,
  v0 := Tryd.zeroValue0,
  t3 := Tryd.underlying3,
  a3 := Tryd.isAgg3,
  z3 := Tryd.sizeOf3,
  v3 := Tryd.zeroValue3,
  t4 := Tryd.underlying4,
  a4 := Tryd.isAgg4,
  z4 := Tryd.sizeOf4,
  v4 := Tryd.zeroValue4,
  t22 := Tryd.underlying22,
  a22 := Tryd.isAgg22,
  z22 := Tryd.sizeOf22,
  v22 := Tryd.zeroValue22 }

def Tryd.laysCon_ren : Go.Shelf.Ren := ⟨fun | 7 => 22 | 6 => 35 | n => n, fun | 22 => 22 | 24 => 33 | 4 => 4 | 0 => 0 | 3 => 3 | n => n, fun | n => n⟩

theorem Tryd.laysCon : Go.Proofs.SlLaysQ.n7 Tryd.prog Tryd.laysCon_ren := {
  mixed := by kernel_rfl,
  f6 := ⟨ "slices.Index[[]ringhall/api.Entry,ringhall/api.Entry]", by decide, Tryd.func35.trans (congrArg some (by kernel_rfl))⟩,
  f7 := ⟨ "slices.Contains[[]ringhall/api.Entry,ringhall/api.Entry]", by decide, Tryd.func22.trans (congrArg some (by kernel_rfl))⟩,
  t0 := Tryd.underlying0,
  a0 := Tryd.isAgg0,
  z0 := Tryd.sizeOf0,
  v0 := Tryd.zeroValue0,
  t3 := Tryd.underlying3,
  a3 := Tryd.isAgg3,
  z3 := Tryd.sizeOf3,
  v3 := Tryd.zeroValue3,
  t4 := Tryd.underlying4,
  a4 := Tryd.isAgg4,
  z4 := Tryd.sizeOf4,
  v4 := Tryd.zeroValue4,
  t22 := Tryd.underlying22,
  a22 := Tryd.isAgg22,
  z22 := Tryd.sizeOf22,
  v22 := Tryd.zeroValue22 }

end Go.Proofs.YtheiaebmemcbhaaDoor
