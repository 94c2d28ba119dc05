/- strings.Repeat of a zero byte. -/
import Derived.Test.YtdcplaonafmbjaaJRepLay
import Derived.Test.YtdcplaonafmbjaaJAgainLaw
namespace Go.Proofs.Ytdcplaonafmbjaa
open Go.RowKit

theorem repExtra : Go.Proofs.Builder.Extra Try.prog Try.lays105_ren := {
  sizeBuilder := by kernel_rfl,
  liesBuilder := by kernel_rfl,
  t5 := Try.underlying5,
  a5 := Try.isAgg5,
  z5 := Try.sizeOf5,
  v5 := Try.zeroValue5,
  infoByte := by kernel_rfl,
  cellsByte := by kernel_rfl,
  sizeByte := by kernel_rfl,
  neB5 := by decide }
theorem nul_rep : (⟨(Lib.repeatL nulB.data.toList 640).toArray⟩ : ByteArray) = bytesS zD := by
  apply ByteArray.ext
  apply Array.toList_inj.1
  rw [bytesS_list]
  unfold zD
  rw [List.map_replicate]
  kernel_rfl
theorem repeat_any (W : World) : Calls Try.prog 32 #[.string nulB, .int .i64 640] W fun e w' => e = .returned (.string (bytesS zD)) ∧ Below W.heap.size W w' :=
  (Go.Proofs.Any.strings_Repeat Try.lays105 repExtra nulB 640 W (by omega) (by show 1 * 640 ≤ 140737488355328; omega)).mono fun e w' ⟨he, hw⟩ => ⟨by rw [he, nul_rep], hw⟩

end Go.Proofs.Ytdcplaonafmbjaa
