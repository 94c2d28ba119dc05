/- Part of the proofs of FsCut: the texts MapZ. -/
import Derived.Test.YtpoglnpjadmbpaaGreatDoorMA9
set_option maxHeartbeats 16000000
namespace Go.Proofs.YtpoglnpjadmbpaaGreatDoor
open Go.RowKit Go.Maps
open Go (World.grownBy)
theorem qis {α : Type} (k : Int) (v : α) : ∀ (l : List (Int × α)), getZ (putZ l k v) k = some v
 | [] => by simp [putZ, getZ]
 | y :: r => by
  unfold putZ
  split
  ·simp [getZ]
  ·split
   ·simp [getZ]
   ·rename_i h1 h2
    rw [getZ, if_neg (fun e => h2 e.symm)]
    exact qis k v r
theorem qcr {α : Type} {k j : Int} (v : α) (hj : j ≠ k) : ∀ (l : List (Int × α)), getZ (putZ l k v) j = getZ l j
 | [] => by simp [putZ, getZ, Ne.symm hj]
 | y :: r => by
  unfold putZ
  split
  ·simp [getZ, Ne.symm hj]
  ·split
   ·rename_i h1 h2
    rw [getZ, getZ, if_neg (Ne.symm hj), if_neg (by omega)]
   ·rw [getZ, getZ, qcr v hj r]
section
variable {P : Program} {K T E : TypeId} {w w' : World} {b : Nat} {l : List (Int × Value)}
end
section
variable {P : Program} (w : World) {ops : Array Oper} {rest : List Oper} {o : Oper} {a : Act} {Q : Exit → Act → World → Prop}
end
end Go.Proofs.YtpoglnpjadmbpaaGreatDoor
