/- Commit of nothing, walked. -/
import Derived.Test.YtdcplaonafmbjaaJOps
namespace Go.Proofs.Ytdcplaonafmbjaa
open Go.RowKit

set_option maxRecDepth 100000 in
set_option maxHeartbeats 8000000 in
theorem commit_none {w : World} {a : Addr} {gl : Nat} {F : Nat → Prop} {st : Dk} {sq : Int} (h : CS w a gl F st sq (fun _ => False) w) (hgl : ¬ F gl ∧ gl < w.heap.size) (p : Option Addr) (c : Nat) :
    Calls Try.prog 14 #[.pointer (some ⟨gl, 0, none⟩), .slice p 0 c] w fun e w' => e = .returned (.int .i64 0) ∧ CS w a gl F (doE st barR) sq (fun _ => False) w' := by
  have HR : Hid (Calls Try.prog 42 #[.pointer (some ⟨gl, 0, none⟩), .slice p 0 c] w fun e w' => e = .returned (.int .i64 0) ∧ Below w.heap.size w w') := by
    obtain ⟨F', h1, _⟩ := id h
    exact right_at h1 h.log (.slice p 0 c) [] ⟨rfl, Or.inl ⟨rfl, p, c, rfl⟩⟩ (by simp) (by simp)
  have HC := Lib.hid h
  have HGL := Lib.hid hgl
  clear h hgl
  go_enter Try.func14, Try.ntmps14
  go_wp2_with fail
  refine HR.out.mono ?_
  rintro e w1 ⟨rfl, hb1⟩
  have HC1 := Lib.hid ((HC.out.below HGL.out hb1).mono (G' := fun _ => False) (fun _ h => h.elim))
  clear hb1
  obtain ⟨l0, l1, l2, l3, hlt, lz⟩ := HC1.out.cells
  go_wp2_with fail
  refine (HC1.out.flush HGL.out).mono ?_
  rintro e w2 ⟨rfl, hc2, _⟩
  have HC2 := Lib.hid hc2
  clear hc2 l0 l1 l2 l3 lz
  go_wp2
  go_ret
  exact ⟨rfl, HC2.out⟩

end Go.Proofs.Ytdcplaonafmbjaa
