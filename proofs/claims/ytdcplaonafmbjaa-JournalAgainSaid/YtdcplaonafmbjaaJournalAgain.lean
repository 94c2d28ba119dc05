/- JournalAgain: for all puts, all that is kept twice and all fuses the statement returns true and leaves its arguments alone. No conditions. -/
import Derived.Test.YtdcplaonafmbjaaJRepeat
import Derived.Test.YtdcplaonafmbjaaOpenPuts
namespace Go.Proofs.Ytdcplaonafmbjaa
open Go.ChangeShapes Go.WideShapes Go.ChangeAt Go.RowKit

theorem journalAgain_raw (v : Value) (l : PutL) (hl : l.length ≤ maxLen) (hs : ∀ x, x ∈ l → x.2.size ≤ maxLen) (av : Value) (A : List Bool) (hAl : A.length ≤ maxLen) (bv : Value) (B : List Bool) (hBl : B.length ≤ maxLen) (f : Int) (w : World) (h : PutsAt w v l) (hA : BoolsAt w av A) (hB : BoolsAt w bv B) :
    Calls Try.prog 6 #[v, av, bv, .int .i64 f] w fun e w' => e = .returned (.bool true) ∧ Below w.heap.size w w' :=
  again_law (Lib.hid repeat_any) v l av bv A B f w h hl hs hA hAl hB hBl

-- CLOSING

set_option maxRecDepth 100000 in
theorem journalAgain_lifted (os : Os) (started : os.Started) (H : Type) (enc' : TypeId × Value → H) :
    ReturnsInHanded {} Try.checked os 6 .any (Rows.journalAgainSpec.pre6 enc' Try.prog Try.f6 Rows.journalAgainRow.domain false) (Rows.journalAgainSpec.post enc' Try.prog Try.f6 false true false false) := by
  refine returnsInHanded_of_change (C := Try.checked) Try.own started (by kernel_rfl) Try.func6
    (ChangeSpec.witness6 (enc := enc') (C := Try.checked) false ⟨#[], #[(.slice none 0 0), (.slice none 0 0), (.slice none 0 0), (.int .i64 0)], []⟩ 8 (by kernel_rfl) (by kernel_rfl) (by kernel_rfl) (by kernel_rfl)) ?_
  intro W base args ds gs before hval0 hW hcnd _
  have hval : ∀ (j : Nat) t v, Try.f6.params[j]? = some t → args[j]? = some v → Value.okWide Try.prog W .any base t v := hval0
  have hW' := hW
  obtain ⟨p, q, hA0, hV, rfl, hfz, hnd⟩ := hW
  have hA : DataW.TrodAll enc' Try.prog W 0 (fun _ => true) true Try.f6.params.toList args.toList ds p := hA0
  rw [Try.params6] at hA hval
  obtain ⟨v0, v1, v2, v3, d0, d1, d2, d3, p0, p1, p2, p3, rfl, rfl, rfl, h0, h1, h2, h3⟩ := trodAll_four hA
  obtain ⟨rfl, rfl⟩ := trodVars_none hV
  obtain ⟨l0, hI0, hM0, hx0⟩ := open_putsAt (P := Try.prog) Try.underlying25 Try.underlying67 (by kernel_rfl) rfl rfl (by kernel_rfl) (by kernel_rfl) (by kernel_rfl) (by kernel_rfl) (hval 0 25 v0 rfl rfl) h0
  obtain ⟨l1, hI1, hM1⟩ := open_boolsAt (P := Try.prog) Try.underlying47 Try.underlying4 (by kernel_rfl) (hval 1 47 v1 rfl rfl) h1
  obtain ⟨l2, hI2, hM2⟩ := open_boolsAt (P := Try.prog) Try.underlying47 Try.underlying4 (by kernel_rfl) (hval 2 47 v2 rfl rfl) h2
  obtain ⟨f, rfl, rfl, rfl, wf⟩ := open_int Try.underlying3 (hval 3 3 v3 rfl rfl) h3
  clear hA0 hval0
  refine (journalAgain_raw _ l0 hM0 hx0 _ l1 hM1 _ l2 hM2 f W hI0 hI1 hI2).mono fun e W' ⟨he, hw⟩ => ?_
  subst he
  exact ⟨_, rfl, law_post 4 Try.laidOut (by kernel_rfl) rfl rfl Try.underlying4 hW' rfl hw⟩

theorem journalAgain_holds : Rows.JournalAgainSaid :=
  OpenClaim.holds_of_wide 6 Try.f6 rfl rfl rfl rfl rfl rfl rfl ⟨rfl, rfl, rfl, rfl, rfl⟩ rfl rfl rfl rfl rfl (by kernel_rfl) Try.func6 (by kernel_rfl)
    (of_decide_eq_true (by kernel_rfl)) (by unfold Func.isWrapper; first | (rw [if_pos (by decide +kernel)]; kernel_rfl) | (rw [if_neg (by decide +kernel)]; exact ⟨rfl, rfl⟩))
    (fun os started H enc _ => journalAgain_lifted os started H enc)

end Go.Proofs.Ytdcplaonafmbjaa
