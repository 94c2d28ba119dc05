/- JournalScan: for all lists of puts the statement returns true and leaves its argument alone. No conditions. -/
import Derived.Test.YtdcplaonafmbjaaJScanLaw
import Derived.Test.YtdcplaonafmbjaaOpenPuts
namespace Go.Proofs.Ytdcplaonafmbjaa
open Go.ChangeShapes Go.WideShapes Go.ChangeAt Go.RowKit

theorem journalScan_raw (v : Value) (L : List (Value × PutL)) (hl : L.length ≤ maxLen) (hL : ∀ x ∈ L, x.2.length ≤ maxLen ∧ ∀ y, y ∈ x.2 → y.2.size ≤ maxLen) (w : World) (h : PutsRows w v L) :
    Calls Try.prog 3 #[v] w fun e w' => e = .returned (.bool true) ∧ Below w.heap.size w w' := scan_law v L w h hl hL

-- CLOSING

set_option maxRecDepth 100000 in
theorem journalScan_lifted (os : Os) (started : os.Started) (H : Type) (enc' : TypeId × Value → H) :
    ReturnsInHanded {} Try.checked os 3 .any (Rows.journalScanSpec.pre6 enc' Try.prog Try.f3 Rows.journalScanRow.domain false) (Rows.journalScanSpec.post enc' Try.prog Try.f3 false true false false) := by
  refine returnsInHanded_of_change (C := Try.checked) Try.own started (by kernel_rfl) Try.func3
    (ChangeSpec.witness6 (enc := enc') (C := Try.checked) false ⟨#[], #[(.slice none 0 0)], []⟩ 8 (by kernel_rfl) (by kernel_rfl) (by kernel_rfl) (by kernel_rfl)) ?_
  intro W base args ds gs before hval0 hW hcnd _
  have hval : ∀ (j : Nat) t v, Try.f3.params[j]? = some t → args[j]? = some v → Value.okWide Try.prog W .any base t v := hval0
  have hW' := hW
  obtain ⟨p, q, hA0, hV, rfl, hfz, hnd⟩ := hW
  have hA : DataW.TrodAll enc' Try.prog W 0 (fun _ => true) true Try.f3.params.toList args.toList ds p := hA0
  rw [Try.params3] at hA hval
  obtain ⟨v0, d0, rfl, rfl, h0⟩ := trodAll_one hA
  obtain ⟨rfl, rfl⟩ := trodVars_none hV
  obtain ⟨l0, hI0, hM0, hx0⟩ := open_putsRows (P := Try.prog) Try.underlying22 (by kernel_rfl) Try.underlying25 Try.underlying67 (by kernel_rfl) rfl rfl (by kernel_rfl) (by kernel_rfl) (by kernel_rfl) (by kernel_rfl) (hval 0 22 v0 rfl rfl) h0
  clear hA0 hval0
  refine (journalScan_raw _ l0 hM0 hx0 W hI0).mono fun e W' ⟨he, hw⟩ => ?_
  subst he
  exact ⟨_, rfl, law_post 4 Try.laidOut (by kernel_rfl) rfl rfl Try.underlying4 hW' rfl hw⟩

theorem journalScan_holds : Rows.JournalScanSaid :=
  OpenClaim.holds_of_wide 3 Try.f3 rfl rfl rfl rfl rfl rfl rfl ⟨rfl, rfl, rfl, rfl, rfl⟩ rfl rfl rfl rfl rfl (by kernel_rfl) Try.func3 (by kernel_rfl)
    (of_decide_eq_true (by kernel_rfl)) (by unfold Func.isWrapper; first | (rw [if_pos (by decide +kernel)]; kernel_rfl) | (rw [if_neg (by decide +kernel)]; exact ⟨rfl, rfl⟩))
    (fun os started H enc _ => journalScan_lifted os started H enc)

end Go.Proofs.Ytdcplaonafmbjaa
