/- Part of the proofs of CheckFresh, FsCut: the texts QRun. -/
import Derived.Test.YtpoglnpjadmbpaaGreatDoorMA43
set_option maxHeartbeats 16000000
namespace Go.Proofs.YtpoglnpjadmbpaaGreatDoor
open Go.RowKit
section
variable {P : Program}
theorem qbz {ops : Array Oper} {Q : Act → Prop} {rest : List Oper} {o : Oper} {a : Act} {C : World → Prop} (hw : Region.wanted o (yielded ops a.tmps) = true) (v : Value)
  (hr : ∀ w, C w → (execOp a.eval o).run P w = .ok (.value v) w) (h : wpQuiet P ops C Q rest (a.put o.dst v)) : wpQuiet P ops C Q (o :: rest) a :=
 BigFrame.wpQuiet_want hw fun _ hK => ⟨v, fun w' hw' => by
  unfold Oper.quietAt
  rw [hr w' hw']
  exact ⟨rfl, rfl⟩, hK _ h⟩
end
theorem qmq {o : Oper} {a : Act} (s d : TypeId) (x : Operand) (ho : o.op = .convert s d x) (v r : Value) (hx : a.eval x = v) {w : World} (hc : (convert s d v).run Tryz.prog w = .ok r w) : (execOp a.eval o).run Tryz.prog w = .ok (.value r) w := by
 unfold execOp
 simp only [ho, hx, Sem.run_bind, hc, Result.andThen_ok]
 simp [go_sem]
end Go.Proofs.YtpoglnpjadmbpaaGreatDoor
