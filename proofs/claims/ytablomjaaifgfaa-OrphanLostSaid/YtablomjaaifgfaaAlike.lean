/- alike of two inodes; what Stat tells (where a seat has no Used). -/
import Derived.Test.YtablomjaaifgfaaInode
import Derived.Test.YtablomjaaifgfaaEqI
import Derived.Deep.RegionHeldLaw
import Derived.Deep.RegionHeld3
import Derived.Laws.StructEq
namespace Go.Proofs.Ytablomjaaifgfaa
open Go.RowKit

theorem equalInts_true (u v : Value) (l : List Int) (w : World) (h1 : IntsAt w u l) (h2 : IntsAt w v l) (hl : l.length ≤ 1000000) :
    Calls Try.prog 13 #[u, v] w fun e w' => e = .returned (.bool true) ∧ Below w.heap.size w w' := by
  have h := equalInts_any u v l l w h1 h2 hl hl
  have e : eqL l l = true := by unfold eqL; simp
  rwa [e] at h

set_option maxHeartbeats 1000000 in
theorem stat_any (k m u g s l up : Int) (v : Value) (w : World) :
    Calls Try.prog 26 #[.agg #[.int .i64 k, .int .i64 m, .int .i64 u, .int .i64 g, .int .i64 s, .int .i64 l, .int .i64 up, v]] w fun e w' => e = .returned (.agg #[.int .i64 k, .int .i64 m, .int .i64 u, .int .i64 g, .int .i64 s, .int .i64 l]) ∧ Below w.heap.size w w' := by
  go_enter Try.func26, Try.ntmps26
  go_wp2
  refine bodyPost_ret (v := .agg #[.int .i64 k, .int .i64 m, .int .i64 u, .int .i64 g, .int .i64 s, .int .i64 l]) (by simp [results, Try.results26, go_sem]) rfl ⟨rfl, ?_⟩
  exact ((Below.refl _ _).alloc (Nat.le_refl _) _).alloc (by simp) _

/-- Two nodes lie in blocks of their own. -/
def AlikeAt (w : World) (B1 B2 : Nat) (k m u g s l up : Int) (v1 v2 : Value) (P : List Int) (W : World) : Prop :=
  W.heap[B1]? = some (.cells #[.int .i64 k, .int .i64 m, .int .i64 u, .int .i64 g, .int .i64 s, .int .i64 l, .int .i64 up, v1] 24 (0, 0)) ∧ W.heap[B2]? = some (.cells #[.int .i64 k, .int .i64 m, .int .i64 u, .int .i64 g, .int .i64 s, .int .i64 l, .int .i64 up, v2] 24 (0, 0)) ∧ Below w.heap.size w W ∧ IntsAt W v1 P ∧ IntsAt W v2 P
theorem AlikeAt.below {w : World} {B1 B2 : Nat} {k m u g s l up : Int} {v1 v2 : Value} {P : List Int} {W W' : World} (h : AlikeAt w B1 B2 k m u g s l up v1 v2 P W) (hb : Below W.heap.size W W') : AlikeAt w B1 B2 k m u g s l up v1 v2 P W' :=
  ⟨heap_below hb h.1, heap_below hb h.2.1, Below.step h.2.2.1 hb, RowAt.below h.2.2.2.1 hb, RowAt.below h.2.2.2.2 hb⟩
theorem node_cells {W : World} {B : Nat} {k m u g s l up : Int} {v : Value} {t : TypeId} (h : W.heap[B]? = some (.cells #[.int .i64 k, .int .i64 m, .int .i64 u, .int .i64 g, .int .i64 s, .int .i64 l, .int .i64 up, v] t (0, 0))) : W.cell? ⟨B, 0, none⟩ = some (.int .i64 k) ∧ W.cell? ⟨B, 1, none⟩ = some (.int .i64 m) ∧ W.cell? ⟨B, 2, none⟩ = some (.int .i64 u) ∧ W.cell? ⟨B, 3, none⟩ = some (.int .i64 g) ∧ W.cell? ⟨B, 4, none⟩ = some (.int .i64 s) ∧ W.cell? ⟨B, 5, none⟩ = some (.int .i64 l) ∧ W.cell? ⟨B, 6, none⟩ = some (.int .i64 up) ∧ W.cell? ⟨B, 7, none⟩ = some v := by
  have c := fun j => cell_of_row W B j _ t (0, 0) h
  exact ⟨c 0, c 1, c 2, c 3, c 4, c 5, c 6, c 7⟩
theorem AlikeAt.cells {w : World} {B1 B2 : Nat} {k m u g s l up : Int} {v1 v2 : Value} {P : List Int} {W : World} (h : AlikeAt w B1 B2 k m u g s l up v1 v2 P W) :
    (W.cell? ⟨B1, 0, none⟩ = some (.int .i64 k) ∧ W.cell? ⟨B1, 1, none⟩ = some (.int .i64 m) ∧ W.cell? ⟨B1, 2, none⟩ = some (.int .i64 u) ∧ W.cell? ⟨B1, 3, none⟩ = some (.int .i64 g) ∧ W.cell? ⟨B1, 4, none⟩ = some (.int .i64 s) ∧ W.cell? ⟨B1, 5, none⟩ = some (.int .i64 l) ∧ W.cell? ⟨B1, 6, none⟩ = some (.int .i64 up) ∧ W.cell? ⟨B1, 7, none⟩ = some v1) ∧ (W.cell? ⟨B2, 0, none⟩ = some (.int .i64 k) ∧ W.cell? ⟨B2, 1, none⟩ = some (.int .i64 m) ∧ W.cell? ⟨B2, 2, none⟩ = some (.int .i64 u) ∧ W.cell? ⟨B2, 3, none⟩ = some (.int .i64 g) ∧ W.cell? ⟨B2, 4, none⟩ = some (.int .i64 s) ∧ W.cell? ⟨B2, 5, none⟩ = some (.int .i64 l) ∧ W.cell? ⟨B2, 6, none⟩ = some (.int .i64 up) ∧ W.cell? ⟨B2, 7, none⟩ = some v2) := ⟨node_cells h.1, node_cells h.2.1⟩

set_option maxRecDepth 100000 in
set_option maxHeartbeats 4000000 in
theorem alike_true (k m u g s l up : Int) (v1 v2 : Value) (P : List Int) (w : World) (h1 : IntsAt w v1 P) (h2 : IntsAt w v2 P) (hl : P.length ≤ 1000000) :
    Calls Try.prog 12 #[.agg #[.int .i64 k, .int .i64 m, .int .i64 u, .int .i64 g, .int .i64 s, .int .i64 l, .int .i64 up, v1], .agg #[.int .i64 k, .int .i64 m, .int .i64 u, .int .i64 g, .int .i64 s, .int .i64 l, .int .i64 up, v2]] w fun e w' => e = .returned (.bool true) ∧ Below w.heap.size w w' := by
  have HQ0 : Hid (AlikeAt w w.heap.size (w.heap.size + 1) k m u g s l up v1 v2 P ((w.alloc (.cells #[.int .i64 k, .int .i64 m, .int .i64 u, .int .i64 g, .int .i64 s, .int .i64 l, .int .i64 up, v1] 24)).alloc (.cells #[.int .i64 k, .int .i64 m, .int .i64 u, .int .i64 g, .int .i64 s, .int .i64 l, .int .i64 up, v2] 24)).drew) := by
    have e : (w.alloc (.cells #[.int .i64 k, .int .i64 m, .int .i64 u, .int .i64 g, .int .i64 s, .int .i64 l, .int .i64 up, v1] 24)).heap.size = w.heap.size + 1 := by simp
    have hb : Below w.heap.size w ((w.alloc (.cells #[.int .i64 k, .int .i64 m, .int .i64 u, .int .i64 g, .int .i64 s, .int .i64 l, .int .i64 up, v1] 24)).alloc (.cells #[.int .i64 k, .int .i64 m, .int .i64 u, .int .i64 g, .int .i64 s, .int .i64 l, .int .i64 up, v2] 24)) := ((Below.refl _ _).alloc (Nat.le_refl _) _).alloc (by simp) _
    refine ⟨heap_alloc_keep (heap_alloc_new w _) _, ?_, hb.drew, RowAt.below h1 hb.drew, RowAt.below h2 hb.drew⟩
    have := heap_alloc_new (w.alloc (.cells #[.int .i64 k, .int .i64 m, .int .i64 u, .int .i64 g, .int .i64 s, .int .i64 l, .int .i64 up, v1] 24)) (.cells #[.int .i64 k, .int .i64 m, .int .i64 u, .int .i64 g, .int .i64 s, .int .i64 l, .int .i64 up, v2] 24)
    rw [e] at this
    exact this
  have HL := Lib.hid hl
  clear h1 h2 hl
  go_enter Try.func12, Try.ntmps12
  go_wp2_with fail
  generalize ((w.alloc (.cells #[.int .i64 k, .int .i64 m, .int .i64 u, .int .i64 g, .int .i64 s, .int .i64 l, .int .i64 up, v1] 24)).alloc (.cells #[.int .i64 k, .int .i64 m, .int .i64 u, .int .i64 g, .int .i64 s, .int .i64 l, .int .i64 up, v2] 24)) = wq at *
  refine wp_region_noPanic ?_
  go_region_held_law (fun w' => (w'.cell? ⟨w.heap.size, 0, none⟩ = some (.int .i64 k) ∧ w'.cell? ⟨w.heap.size, 1, none⟩ = some (.int .i64 m) ∧ w'.cell? ⟨w.heap.size, 2, none⟩ = some (.int .i64 u) ∧ w'.cell? ⟨w.heap.size, 3, none⟩ = some (.int .i64 g) ∧ w'.cell? ⟨w.heap.size, 4, none⟩ = some (.int .i64 s) ∧ w'.cell? ⟨w.heap.size, 5, none⟩ = some (.int .i64 l) ∧ w'.cell? ⟨w.heap.size, 6, none⟩ = some (.int .i64 up) ∧ w'.cell? ⟨w.heap.size, 7, none⟩ = some v1) ∧ (w'.cell? ⟨(w.heap.size + 1), 0, none⟩ = some (.int .i64 k) ∧ w'.cell? ⟨(w.heap.size + 1), 1, none⟩ = some (.int .i64 m) ∧ w'.cell? ⟨(w.heap.size + 1), 2, none⟩ = some (.int .i64 u) ∧ w'.cell? ⟨(w.heap.size + 1), 3, none⟩ = some (.int .i64 g) ∧ w'.cell? ⟨(w.heap.size + 1), 4, none⟩ = some (.int .i64 s) ∧ w'.cell? ⟨(w.heap.size + 1), 5, none⟩ = some (.int .i64 l) ∧ w'.cell? ⟨(w.heap.size + 1), 6, none⟩ = some (.int .i64 up) ∧ w'.cell? ⟨(w.heap.size + 1), 7, none⟩ = some v2))
    (first
      | exact HQ3.out.cells
      | exact HQ2.out.cells
      | exact HQ1.out.cells
      | exact HQ0.out.cells)
    (first
      | (go_at_call 26; ((with_reducible refine (stat_any k m u g s l up v1 _).mono ?_); rintro e w2 ⟨rfl, hb2⟩; have HQ1 : Hid (AlikeAt w w.heap.size (w.heap.size + 1) k m u g s l up v1 v2 P w2) := AlikeAt.below HQ0.out hb2; clear hb2))
      | (go_at_call 26; ((with_reducible refine (stat_any k m u g s l up v2 _).mono ?_); rintro e w3 ⟨rfl, hb3⟩; have HQ2 : Hid (AlikeAt w w.heap.size (w.heap.size + 1) k m u g s l up v1 v2 P w3) := AlikeAt.below HQ1.out hb3; clear hb3))
      | (go_at_call 13; refine (equalInts_true _ _ P _ HQ2.out.2.2.2.1 HQ2.out.2.2.2.2 HL.out).mono ?_; rintro e w4 ⟨rfl, hb4⟩; have HQ3 : Hid (AlikeAt w w.heap.size (w.heap.size + 1) k m u g s l up v1 v2 P w4) := AlikeAt.below HQ2.out hb4; clear hb4))
  all_goals
    refine NoPanic.normal ?_
    go_wp2
    go_ret
    exact ⟨rfl, HQ3.out.2.2.1⟩

end Go.Proofs.Ytablomjaaifgfaa
