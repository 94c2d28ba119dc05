/- Part of the proofs of CheckFresh, FsCut, FsHoles: the texts SortK, DirSortLay, ShSortR, ShSortW. -/
import Derived.Test.YtpoglnpjadmbpaaGreatDoorMA3
import Derived.Shelf.SlSortCmp.WholeK
import Derived.Shelf.SlSortCmp.NoneTotal
import Derived.Ground.SlsfProg
import Derived.Test.YtpoglnpjadmbpaaGreatDoorProg
set_option maxHeartbeats 16000000
namespace Go.Proofs.YtpoglnpjadmbpaaGreatDoor
open Go.RowKit Go.Sort Go.Shelf
theorem qwr {α : Type} {enc : α → List Value} {k : Nat} (hk : ∀ x, (enc x).length = k) (l : List α) : (l.flatMap enc).length = l.length * k := by
 induction l with
 | nil => simp
 | cons x l ih => rw [List.flatMap_cons, List.length_append, ih, hk, List.length_cons, Nat.add_mul]; omega
section
variable {α : Type} [Inhabited α]
theorem ybfl {enc : α → List Value} {k : Nat} (hk : ∀ x, (enc x).length = k) : ∀ (l : List α) (t : Nat), t < l.length * k → (l.flatMap enc)[t]? = some ((enc (l[t / k]?.getD default))[t % k]?.getD default)
 | [], t, h => by simp at h
 | x :: l, t, h => by
  have hk0 : 0 < k := by
   rcases Nat.eq_zero_or_pos k with e | e
   ·subst e; simp at h
   ·exact e
  rw [List.flatMap_cons]
  by_cases ht : t < k
  ·rw [List.getElem?_append_left (by rw [hk]; exact ht), Nat.div_eq_of_lt ht, Nat.mod_eq_of_lt ht]
   have : t < (enc x).length := by rw [hk]; exact ht
   simp [List.getElem?_eq_getElem this]
  ·rw [List.getElem?_append_right (by rw [hk]; omega), hk]
   have h2 : t - k < l.length * k := by rw [List.length_cons, Nat.add_mul] at h; omega
   rw [ybfl hk l (t - k) h2]
   have e1 : t / k = (t - k) / k + 1 := by
    conv => lhs; rw [show t = (t - k) + k by omega, Nat.add_div_right _ hk0]
   have e2 : t % k = (t - k) % k := by
    conv => lhs; rw [show t = (t - k) + k by omega, Nat.add_mod_right]
   rw [e1, e2, List.getElem?_cons_succ]
theorem qus {enc : α → List Value} {k : Nat} (hk : ∀ x, (enc x).length = k) (d : Array α) : (flatK enc k d).toList = d.toList.flatMap enc := by
 refine List.ext_getElem? fun t => ?_
 by_cases h : t < d.size * k
 ·have h1 := ybfl hk d.toList t (by simpa using h)
  rw [h1]
  have h2 := get_flatK enc k d t h
  have h3 : t < (flatK enc k d).size := by rw [size_flatK]; exact h
  rw [getElem!_pos _ t h3] at h2
  rw [Array.getElem?_toList, Array.getElem?_eq_getElem h3, h2]
  have h4 : t / k < d.size := by
   rcases Nat.eq_zero_or_pos k with e | e
   ·subst e; simp at h
   ·exact Nat.div_lt_of_lt_mul (by rw [Nat.mul_comm]; exact h)
  have e1 : d[t / k]! = d.toList[t / k]?.getD default := by
   rw [getElem!_pos d (t / k) h4, Array.getElem?_toList, Array.getElem?_eq_getElem h4]; rfl
  rw [e1]
  congr 1
  rw [List.getElem!_eq_getElem?_getD]
 ·rw [List.getElem?_eq_none (by have := size_flatK enc k d; simp; omega), List.getElem?_eq_none (by rw [qwr hk]; simpa using h)]
theorem qxn (F c : Array Value) (h : F.size ≤ c.size) : ((putCells id 0 F c).toList).take F.size = F.toList ∧ (putCells id 0 F c).size = c.size := by
 refine ⟨?_, by simp [putCells]⟩
 refine List.ext_getElem (by simp [putCells]; omega) fun t h1 h2 => ?_
 have h3 : t < F.size := by simpa using h2
 rw [List.getElem_take]
 simp [putCells, h3]
theorem qrw {enc : α → List Value} {k : Nat} (hk : ∀ x, (enc x).length = k) {w : World} {g : Nat} {cur : Array Value} {e : TypeId} {d : Array α} (hh : w.heap[g]? = some (.cells cur e (0, 0))) (ht : cur.toList.take (d.size * k) = d.toList.flatMap enc) : HoldsK enc k w g 0 d := by
 intro j hj
 rw [size_flatK] at hj
 refine ⟨?_, by simp [World.frozen?, hh]⟩
 rw [Nat.zero_add, cell_of_row _ _ _ _ _ _ hh]
 have h1 : (flatK enc k d).toList[j]? = some ((flatK enc k d)[j]!) := by
  have h3 : j < (flatK enc k d).size := by rw [size_flatK]; exact hj
  rw [Array.getElem?_toList, Array.getElem?_eq_getElem h3, getElem!_pos _ j h3]
 rw [qus hk, ← ht, List.getElem?_take, if_pos hj] at h1
 simpa using h1
theorem qja {enc : α → List Value} {k : Nat} (hk : ∀ x, (enc x).length = k) {w : World} {g m : Nat} {cur : Array Value} {e : TypeId} {d : Array α} {os : Array Obj} (hh : w.heap[g]? = some (.cells cur e (0, 0))) (hs : d.size * k ≤ cur.size) :
  ∃ cur', (sortWorldK enc k w g 0 m d os).heap[g]? = some (.cells cur' e (0, 0)) ∧ cur'.size = cur.size ∧ cur'.toList.take (d.size * k) = d.toList.flatMap enc := by
 have hg := qab hh
 obtain ⟨h1, h2⟩ := qxn (flatK enc k d) cur (by rw [size_flatK]; exact hs)
 refine ⟨putCells id 0 (flatK enc k d) cur, ?_, h2, ?_⟩
 ·unfold sortWorldK grow putRowK putRow mapBlock
  rw [Array.getElem?_append_left (by simpa using hg), Array.getElem?_modify]
  simp [hh, onCells]
 ·rw [size_flatK] at h1
  rw [h1, qus hk]
theorem qxx {enc : α → List Value} {k : Nat} {w : World} {g m : Nat} {d : Array α} {os : Array Obj} {i : Nat} (hi : i < w.heap.size) (hne : i ≠ g) : (sortWorldK enc k w g 0 m d os).heap[i]? = w.heap[i]? := by
 unfold sortWorldK grow putRowK putRow mapBlock
 rw [Array.getElem?_append_left (by simpa using hi), Array.getElem?_modify, if_neg (Ne.symm hne)]
 simp
theorem qjb {enc : α → List Value} {k : Nat} {w : World} {g m : Nat} {d : Array α} {os : Array Obj} : w.grownBy (sortWorldK enc k w g 0 m d os) (some g) :=
 ⟨rfl, rfl, rfl, size_sortWorldK_c enc k w g 0 m d os, fun i hi hne => qxx hi fun e => hne (by rw [e])⟩
end
end Go.Proofs.YtpoglnpjadmbpaaGreatDoor
namespace Go.Proofs.YtpoglnpjadmbpaaGreatDoor
open Go.Shelf
def Tryz.laysSortE_ren : Go.Shelf.Ren := ⟨fun | 6 => 119 | 15 => 89 | 14 => 163 | 28 => 135 | 29 => 136 | 20 => 192 | 21 => 193 | 22 => 194 | 23 => 195 | 24 => 196 | 25 => 197 | 26 => 198 | 27 => 199 | 46 => 211 | 47 => 166 | 48 => 167 | 49 => 212 | 50 => 213 | 57 => 220 | n => n, fun | 22 => 28 | 24 => 100 | 25 => 188 | 3 => 3 | 39 => 61 | 0 => 0 | 53 => 163 | 55 => 200 | 4 => 4 | 46 => 192 | 45 => 191 | 50 => 196 | 5 => 5 | 9 => 9 | 66 => 230 | 70 => 234 | 76 => 260 | 77 => 261 | n => n, fun | n => n⟩
theorem Tryz.laysSortE : Go.Proofs.SlLaysF0.n6 Tryz.prog Tryz.laysSortE_ren := {
 mixed := by kernel_rfl,
 f6 := ⟨ "slices.SortFunc[[]ringhall/api.Entry,ringhall/api.Entry]", by decide, Tryz.func119.trans (congrArg some (by kernel_rfl))⟩,
 f14 := ⟨ "slices.pdqsortCmpFunc[ringhall/api.Entry]", by decide, Tryz.func163.trans (congrArg some (by kernel_rfl))⟩,
 f15 := Tryz.func89.trans (congrArg some (by kernel_rfl)),
 f20 := ⟨ "slices.insertionSortCmpFunc[ringhall/api.Entry]", by decide, Tryz.func192.trans (congrArg some (by kernel_rfl))⟩,
 f21 := ⟨ "slices.heapSortCmpFunc[ringhall/api.Entry]", by decide, Tryz.func193.trans (congrArg some (by kernel_rfl))⟩,
 f22 := ⟨ "slices.breakPatternsCmpFunc[ringhall/api.Entry]", by decide, Tryz.func194.trans (congrArg some (by kernel_rfl))⟩,
 f23 := ⟨ "slices.choosePivotCmpFunc[ringhall/api.Entry]", by decide, Tryz.func195.trans (congrArg some (by kernel_rfl))⟩,
 f24 := ⟨ "slices.reverseRangeCmpFunc[ringhall/api.Entry]", by decide, Tryz.func196.trans (congrArg some (by kernel_rfl))⟩,
 f25 := ⟨ "slices.partialInsertionSortCmpFunc[ringhall/api.Entry]", by decide, Tryz.func197.trans (congrArg some (by kernel_rfl))⟩,
 f26 := ⟨ "slices.partitionEqualCmpFunc[ringhall/api.Entry]", by decide, Tryz.func198.trans (congrArg some (by kernel_rfl))⟩,
 f27 := ⟨ "slices.partitionCmpFunc[ringhall/api.Entry]", by decide, Tryz.func199.trans (congrArg some (by kernel_rfl))⟩,
 f28 := Tryz.func135.trans (congrArg some (by kernel_rfl)),
 f29 := Tryz.func136.trans (congrArg some (by kernel_rfl)),
 f46 := ⟨ "slices.siftDownCmpFunc[ringhall/api.Entry]", by decide, Tryz.func211.trans (congrArg some (by kernel_rfl))⟩,
 f47 := Tryz.func166.trans (congrArg some (by kernel_rfl)),
 f48 := Tryz.func167.trans (congrArg some (by kernel_rfl)),
 f49 := ⟨ "slices.medianAdjacentCmpFunc[ringhall/api.Entry]", by decide, Tryz.func212.trans (congrArg some (by kernel_rfl))⟩,
 f50 := ⟨ "slices.medianCmpFunc[ringhall/api.Entry]", by decide, Tryz.func213.trans (congrArg some (by kernel_rfl))⟩,
 f57 := ⟨ "slices.order2CmpFunc[ringhall/api.Entry]", by decide, Tryz.func220.trans (congrArg some (by kernel_rfl))⟩,
 t0 := Tryz.underlying0,
 a0 := Tryz.isAgg0,
 z0 := Tryz.sizeOf0,
 v0 := Tryz.zeroValue0,
 t3 := Tryz.underlying3,
 a3 := Tryz.isAgg3,
 z3 := Tryz.sizeOf3,
 v3 := Tryz.zeroValue3,
 t4 := Tryz.underlying4,
 a4 := Tryz.isAgg4,
 z4 := Tryz.sizeOf4,
 v4 := Tryz.zeroValue4,
 t5 := Tryz.underlying5,
 a5 := Tryz.isAgg5,
 z5 := Tryz.sizeOf5,
 v5 := Tryz.zeroValue5,
 t9 := Tryz.underlying9,
 a9 := Tryz.isAgg9,
 z9 := Tryz.sizeOf9,
 v9 := Tryz.zeroValue9,
 t22 := Tryz.underlying28,
 a22 := Tryz.isAgg28,
 z22 := Tryz.sizeOf28,
 v22 := Tryz.zeroValue28,
 t25 := Tryz.underlying188,
 a25 := Tryz.isAgg188,
 z25 := Tryz.sizeOf188,
 v25 := Tryz.zeroValue188,
 t39 := Tryz.underlying61,
 a39 := Tryz.isAgg61,
 z39 := Tryz.sizeOf61,
 v39 := Tryz.zeroValue61,
 t45 := Tryz.underlying191,
 a45 := Tryz.isAgg191,
 z45 := Tryz.sizeOf191,
 v45 := Tryz.zeroValue191,
 t46 := Tryz.underlying192,
 a46 := Tryz.isAgg192,
 z46 := Tryz.sizeOf192,
 v46 := Tryz.zeroValue192,
 t50 := Tryz.underlying196,
 a50 := Tryz.isAgg196,
 z50 := Tryz.sizeOf196,
 v50 := Tryz.zeroValue196,
 t53 := Tryz.underlying163,
 a53 := Tryz.isAgg163,
 z53 := Tryz.sizeOf163,
 v53 := Tryz.zeroValue163,
 t55 := Tryz.underlying200,
 a55 := Tryz.isAgg200,
 z55 := Tryz.sizeOf200,
 v55 := Tryz.zeroValue200,
 t66 := Tryz.underlying230,
 a66 := Tryz.isAgg230,
 z66 := Tryz.sizeOf230,
 v66 := Tryz.zeroValue230,
 t70 := Tryz.underlying234,
 a70 := Tryz.isAgg234,
 z70 := Tryz.sizeOf234,
 v70 := Tryz.zeroValue234,
 t76 := Tryz.underlying260,
 a76 := Tryz.isAgg260,
 z76 := Tryz.sizeOf260,
 v76 := Tryz.zeroValue260,
 t77 := Tryz.underlying261,
 a77 := Tryz.isAgg261,
 z77 := Tryz.sizeOf261,
 v77 := Tryz.zeroValue261 }
def Tryz.laysSortR_ren : Go.Shelf.Ren := ⟨fun | 6 => 202 | 15 => 89 | 14 => 214 | 28 => 135 | 29 => 136 | 20 => 221 | 21 => 222 | 22 => 223 | 23 => 224 | 24 => 225 | 25 => 226 | 26 => 227 | 27 => 228 | 46 => 229 | 47 => 166 | 48 => 167 | 49 => 230 | 50 => 231 | 57 => 232 | n => n, fun | 22 => 167 | 24 => 171 | 25 => 265 | 3 => 3 | 39 => 61 | 0 => 0 | 53 => 163 | 55 => 200 | 4 => 4 | 46 => 192 | 45 => 191 | 50 => 196 | 5 => 5 | 9 => 9 | 66 => 230 | 70 => 234 | 76 => 260 | 77 => 261 | n => n, fun | n => n⟩
theorem Tryz.laysSortR : Go.Proofs.SlLaysF0.n6 Tryz.prog Tryz.laysSortR_ren := {
 mixed := by kernel_rfl,
 f6 := ⟨ "slices.SortFunc[[]ringhall/lift.Req,ringhall/lift.Req]", by decide, Tryz.func202.trans (congrArg some (by kernel_rfl))⟩,
 f14 := ⟨ "slices.pdqsortCmpFunc[ringhall/lift.Req]", by decide, Tryz.func214.trans (congrArg some (by kernel_rfl))⟩,
 f15 := Tryz.func89.trans (congrArg some (by kernel_rfl)),
 f20 := ⟨ "slices.insertionSortCmpFunc[ringhall/lift.Req]", by decide, Tryz.func221.trans (congrArg some (by kernel_rfl))⟩,
 f21 := ⟨ "slices.heapSortCmpFunc[ringhall/lift.Req]", by decide, Tryz.func222.trans (congrArg some (by kernel_rfl))⟩,
 f22 := ⟨ "slices.breakPatternsCmpFunc[ringhall/lift.Req]", by decide, Tryz.func223.trans (congrArg some (by kernel_rfl))⟩,
 f23 := ⟨ "slices.choosePivotCmpFunc[ringhall/lift.Req]", by decide, Tryz.func224.trans (congrArg some (by kernel_rfl))⟩,
 f24 := ⟨ "slices.reverseRangeCmpFunc[ringhall/lift.Req]", by decide, Tryz.func225.trans (congrArg some (by kernel_rfl))⟩,
 f25 := ⟨ "slices.partialInsertionSortCmpFunc[ringhall/lift.Req]", by decide, Tryz.func226.trans (congrArg some (by kernel_rfl))⟩,
 f26 := ⟨ "slices.partitionEqualCmpFunc[ringhall/lift.Req]", by decide, Tryz.func227.trans (congrArg some (by kernel_rfl))⟩,
 f27 := ⟨ "slices.partitionCmpFunc[ringhall/lift.Req]", by decide, Tryz.func228.trans (congrArg some (by kernel_rfl))⟩,
 f28 := Tryz.func135.trans (congrArg some (by kernel_rfl)),
 f29 := Tryz.func136.trans (congrArg some (by kernel_rfl)),
 f46 := ⟨ "slices.siftDownCmpFunc[ringhall/lift.Req]", by decide, Tryz.func229.trans (congrArg some (by kernel_rfl))⟩,
 f47 := Tryz.func166.trans (congrArg some (by kernel_rfl)),
 f48 := Tryz.func167.trans (congrArg some (by kernel_rfl)),
 f49 := ⟨ "slices.medianAdjacentCmpFunc[ringhall/lift.Req]", by decide, Tryz.func230.trans (congrArg some (by kernel_rfl))⟩,
 f50 := ⟨ "slices.medianCmpFunc[ringhall/lift.Req]", by decide, Tryz.func231.trans (congrArg some (by kernel_rfl))⟩,
 f57 := ⟨ "slices.order2CmpFunc[ringhall/lift.Req]", by decide, Tryz.func232.trans (congrArg some (by kernel_rfl))⟩,
 t0 := Tryz.underlying0,
 a0 := Tryz.isAgg0,
 z0 := Tryz.sizeOf0,
 v0 := Tryz.zeroValue0,
 t3 := Tryz.underlying3,
 a3 := Tryz.isAgg3,
 z3 := Tryz.sizeOf3,
 v3 := Tryz.zeroValue3,
 t4 := Tryz.underlying4,
 a4 := Tryz.isAgg4,
 z4 := Tryz.sizeOf4,
 v4 := Tryz.zeroValue4,
 t5 := Tryz.underlying5,
 a5 := Tryz.isAgg5,
 z5 := Tryz.sizeOf5,
 v5 := Tryz.zeroValue5,
 t9 := Tryz.underlying9,
 a9 := Tryz.isAgg9,
 z9 := Tryz.sizeOf9,
 v9 := Tryz.zeroValue9,
 t22 := Tryz.underlying167,
 a22 := Tryz.isAgg167,
 z22 := Tryz.sizeOf167,
 v22 := Tryz.zeroValue167,
 t25 := Tryz.underlying265,
 a25 := Tryz.isAgg265,
 z25 := Tryz.sizeOf265,
 v25 := Tryz.zeroValue265,
 t39 := Tryz.underlying61,
 a39 := Tryz.isAgg61,
 z39 := Tryz.sizeOf61,
 v39 := Tryz.zeroValue61,
 t45 := Tryz.underlying191,
 a45 := Tryz.isAgg191,
 z45 := Tryz.sizeOf191,
 v45 := Tryz.zeroValue191,
 t46 := Tryz.underlying192,
 a46 := Tryz.isAgg192,
 z46 := Tryz.sizeOf192,
 v46 := Tryz.zeroValue192,
 t50 := Tryz.underlying196,
 a50 := Tryz.isAgg196,
 z50 := Tryz.sizeOf196,
 v50 := Tryz.zeroValue196,
 t53 := Tryz.underlying163,
 a53 := Tryz.isAgg163,
 z53 := Tryz.sizeOf163,
 v53 := Tryz.zeroValue163,
 t55 := Tryz.underlying200,
 a55 := Tryz.isAgg200,
 z55 := Tryz.sizeOf200,
 v55 := Tryz.zeroValue200,
 t66 := Tryz.underlying230,
 a66 := Tryz.isAgg230,
 z66 := Tryz.sizeOf230,
 v66 := Tryz.zeroValue230,
 t70 := Tryz.underlying234,
 a70 := Tryz.isAgg234,
 z70 := Tryz.sizeOf234,
 v70 := Tryz.zeroValue234,
 t76 := Tryz.underlying260,
 a76 := Tryz.isAgg260,
 z76 := Tryz.sizeOf260,
 v76 := Tryz.zeroValue260,
 t77 := Tryz.underlying261,
 a77 := Tryz.isAgg261,
 z77 := Tryz.sizeOf261,
 v77 := Tryz.zeroValue261 }
def Tryz.laysSortW_ren : Go.Shelf.Ren := ⟨fun | 6 => 108 | 15 => 89 | 14 => 152 | 28 => 135 | 29 => 136 | 20 => 179 | 21 => 180 | 22 => 181 | 23 => 182 | 24 => 183 | 25 => 184 | 26 => 185 | 27 => 186 | 46 => 205 | 47 => 166 | 48 => 167 | 49 => 206 | 50 => 207 | 57 => 215 | n => n, fun | 22 => 123 | 24 => 169 | 25 => 175 | 3 => 3 | 39 => 61 | 0 => 0 | 53 => 163 | 55 => 200 | 4 => 4 | 46 => 192 | 45 => 191 | 50 => 196 | 5 => 5 | 9 => 9 | 66 => 230 | 70 => 234 | 76 => 260 | 77 => 261 | n => n, fun | n => n⟩
theorem Tryz.laysSortW : Go.Proofs.SlLaysF0.n6 Tryz.prog Tryz.laysSortW_ren := {
 mixed := by kernel_rfl,
 f6 := ⟨ "slices.SortFunc[[]ringhall/journal.Write,ringhall/journal.Write]", by decide, Tryz.func108.trans (congrArg some (by kernel_rfl))⟩,
 f14 := ⟨ "slices.pdqsortCmpFunc[ringhall/journal.Write]", by decide, Tryz.func152.trans (congrArg some (by kernel_rfl))⟩,
 f15 := Tryz.func89.trans (congrArg some (by kernel_rfl)),
 f20 := ⟨ "slices.insertionSortCmpFunc[ringhall/journal.Write]", by decide, Tryz.func179.trans (congrArg some (by kernel_rfl))⟩,
 f21 := ⟨ "slices.heapSortCmpFunc[ringhall/journal.Write]", by decide, Tryz.func180.trans (congrArg some (by kernel_rfl))⟩,
 f22 := ⟨ "slices.breakPatternsCmpFunc[ringhall/journal.Write]", by decide, Tryz.func181.trans (congrArg some (by kernel_rfl))⟩,
 f23 := ⟨ "slices.choosePivotCmpFunc[ringhall/journal.Write]", by decide, Tryz.func182.trans (congrArg some (by kernel_rfl))⟩,
 f24 := ⟨ "slices.reverseRangeCmpFunc[ringhall/journal.Write]", by decide, Tryz.func183.trans (congrArg some (by kernel_rfl))⟩,
 f25 := ⟨ "slices.partialInsertionSortCmpFunc[ringhall/journal.Write]", by decide, Tryz.func184.trans (congrArg some (by kernel_rfl))⟩,
 f26 := ⟨ "slices.partitionEqualCmpFunc[ringhall/journal.Write]", by decide, Tryz.func185.trans (congrArg some (by kernel_rfl))⟩,
 f27 := ⟨ "slices.partitionCmpFunc[ringhall/journal.Write]", by decide, Tryz.func186.trans (congrArg some (by kernel_rfl))⟩,
 f28 := Tryz.func135.trans (congrArg some (by kernel_rfl)),
 f29 := Tryz.func136.trans (congrArg some (by kernel_rfl)),
 f46 := ⟨ "slices.siftDownCmpFunc[ringhall/journal.Write]", by decide, Tryz.func205.trans (congrArg some (by kernel_rfl))⟩,
 f47 := Tryz.func166.trans (congrArg some (by kernel_rfl)),
 f48 := Tryz.func167.trans (congrArg some (by kernel_rfl)),
 f49 := ⟨ "slices.medianAdjacentCmpFunc[ringhall/journal.Write]", by decide, Tryz.func206.trans (congrArg some (by kernel_rfl))⟩,
 f50 := ⟨ "slices.medianCmpFunc[ringhall/journal.Write]", by decide, Tryz.func207.trans (congrArg some (by kernel_rfl))⟩,
 f57 := ⟨ "slices.order2CmpFunc[ringhall/journal.Write]", by decide, Tryz.func215.trans (congrArg some (by kernel_rfl))⟩,
 t0 := Tryz.underlying0,
 a0 := Tryz.isAgg0,
 z0 := Tryz.sizeOf0,
 v0 := Tryz.zeroValue0,
 t3 := Tryz.underlying3,
 a3 := Tryz.isAgg3,
 z3 := Tryz.sizeOf3,
 v3 := Tryz.zeroValue3,
 t4 := Tryz.underlying4,
 a4 := Tryz.isAgg4,
 z4 := Tryz.sizeOf4,
 v4 := Tryz.zeroValue4,
 t5 := Tryz.underlying5,
 a5 := Tryz.isAgg5,
 z5 := Tryz.sizeOf5,
 v5 := Tryz.zeroValue5,
 t9 := Tryz.underlying9,
 a9 := Tryz.isAgg9,
 z9 := Tryz.sizeOf9,
 v9 := Tryz.zeroValue9,
 t22 := Tryz.underlying123,
 a22 := Tryz.isAgg123,
 z22 := Tryz.sizeOf123,
 v22 := Tryz.zeroValue123,
 t25 := Tryz.underlying175,
 a25 := Tryz.isAgg175,
 z25 := Tryz.sizeOf175,
 v25 := Tryz.zeroValue175,
 t39 := Tryz.underlying61,
 a39 := Tryz.isAgg61,
 z39 := Tryz.sizeOf61,
 v39 := Tryz.zeroValue61,
 t45 := Tryz.underlying191,
 a45 := Tryz.isAgg191,
 z45 := Tryz.sizeOf191,
 v45 := Tryz.zeroValue191,
 t46 := Tryz.underlying192,
 a46 := Tryz.isAgg192,
 z46 := Tryz.sizeOf192,
 v46 := Tryz.zeroValue192,
 t50 := Tryz.underlying196,
 a50 := Tryz.isAgg196,
 z50 := Tryz.sizeOf196,
 v50 := Tryz.zeroValue196,
 t53 := Tryz.underlying163,
 a53 := Tryz.isAgg163,
 z53 := Tryz.sizeOf163,
 v53 := Tryz.zeroValue163,
 t55 := Tryz.underlying200,
 a55 := Tryz.isAgg200,
 z55 := Tryz.sizeOf200,
 v55 := Tryz.zeroValue200,
 t66 := Tryz.underlying230,
 a66 := Tryz.isAgg230,
 z66 := Tryz.sizeOf230,
 v66 := Tryz.zeroValue230,
 t70 := Tryz.underlying234,
 a70 := Tryz.isAgg234,
 z70 := Tryz.sizeOf234,
 v70 := Tryz.zeroValue234,
 t76 := Tryz.underlying260,
 a76 := Tryz.isAgg260,
 z76 := Tryz.sizeOf260,
 v76 := Tryz.zeroValue260,
 t77 := Tryz.underlying261,
 a77 := Tryz.isAgg261,
 z77 := Tryz.sizeOf261,
 v77 := Tryz.zeroValue261 }
end Go.Proofs.YtpoglnpjadmbpaaGreatDoor
