/- JournalWhole: for all lists of puts, all fuses and all that is kept the statement returns true and leaves its arguments alone. No conditions. -/
import Derived.Test.YtdcplaonafmbjaaJWholeLaw
import Derived.Test.YtdcplaonafmbjaaOpenPuts
namespace Go.Proofs.Ytdcplaonafmbjaa
open Go.ChangeShapes Go.WideShapes Go.ChangeAt Go.RowKit

theorem journalWhole_raw (v : Value) (L : List (Value × PutL)) (hl : L.length ≤ maxLen) (hL : ∀ x ∈ L, x.2.length ≤ maxLen ∧ ∀ y, y ∈ x.2 → y.2.size ≤ maxLen) (f : Int) (kv : Value) (K : List Bool) (hKl : K.length ≤ maxLen) (w : World) (h : PutsRows w v L) (hK : BoolsAt w kv K) :
    Calls Try.prog 4 #[v, .int .i64 f, kv] w fun e w' => e = .returned (.bool true) ∧ Below w.heap.size w w' := whole_law v L f kv K w h hl hL hK hKl

-- CLOSING

set_option maxRecDepth 100000 in
theorem journalWhole_lifted (os : Os) (started : os.Started) (H : Type) (enc' : TypeId × Value → H) :
    ReturnsInHanded {} Try.checked os 4 .any (Rows.journalWholeSpec.pre6 enc' Try.prog Try.f4 Rows.journalWholeRow.domain false) (Rows.journalWholeSpec.post enc' Try.prog Try.f4 false true false false) := by
  refine returnsInHanded_of_change (C := Try.checked) Try.own started (by kernel_rfl) Try.func4
    (ChangeSpec.witness6 (enc := enc') (C := Try.checked) false ⟨#[], #[(.slice none 0 0), (.int .i64 0), (.slice none 0 0)], []⟩ 8 (by kernel_rfl) (by kernel_rfl) (by kernel_rfl) (by kernel_rfl)) ?_
  intro W base args ds gs before hval0 hW hcnd _
  have hval : ∀ (j : Nat) t v, Try.f4.params[j]? = some t → args[j]? = some v → Value.okWide Try.prog W .any base t v := hval0
  have hW' := hW
  obtain ⟨p, q, hA0, hV, rfl, hfz, hnd⟩ := hW
  have hA : DataW.TrodAll enc' Try.prog W 0 (fun _ => true) true Try.f4.params.toList args.toList ds p := hA0
  rw [Try.params4] at hA hval
  obtain ⟨v0, v1, v2, d0, d1, d2, p0, p1, p2, rfl, rfl, rfl, h0, h1, h2⟩ := trodAll_three hA
  obtain ⟨rfl, rfl⟩ := trodVars_none hV
  obtain ⟨l0, hI0, hM0, hx0⟩ := open_putsRows (P := Try.prog) Try.underlying22 (by kernel_rfl) Try.underlying25 Try.underlying67 (by kernel_rfl) rfl rfl (by kernel_rfl) (by kernel_rfl) (by kernel_rfl) (by kernel_rfl) (hval 0 22 v0 rfl rfl) h0
  obtain ⟨f, rfl, rfl, rfl, wf⟩ := open_int Try.underlying3 (hval 1 3 v1 rfl rfl) h1
  obtain ⟨l2, hI2, hM2⟩ := open_boolsAt (P := Try.prog) Try.underlying47 Try.underlying4 (by kernel_rfl) (hval 2 47 v2 rfl rfl) h2
  clear hA0 hval0
  refine (journalWhole_raw _ l0 hM0 hx0 f _ l2 hM2 W hI0 hI2).mono fun e W' ⟨he, hw⟩ => ?_
  subst he
  exact ⟨_, rfl, law_post 4 Try.laidOut (by kernel_rfl) rfl rfl Try.underlying4 hW' rfl hw⟩

theorem journalWhole_holds : Rows.JournalWholeSaid :=
  OpenClaim.holds_of_wide 4 Try.f4 rfl rfl rfl rfl rfl rfl rfl ⟨rfl, rfl, rfl, rfl, rfl⟩ rfl rfl rfl rfl rfl (by kernel_rfl) Try.func4 (by kernel_rfl)
    (of_decide_eq_true (by kernel_rfl)) (by unfold Func.isWrapper; first | (rw [if_pos (by decide +kernel)]; kernel_rfl) | (rw [if_neg (by decide +kernel)]; exact ⟨rfl, rfl⟩))
    (fun os started H enc _ => journalWhole_lifted os started H enc)

end Go.Proofs.Ytdcplaonafmbjaa
