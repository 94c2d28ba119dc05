/- entries can be held; the fact laid: walked. -/
import Derived.Test.YtheiaebmemcbhaaDoorDirRev
namespace Go.Proofs.YtheiaebmemcbhaaDoor
open Go.RowKit

def entB (l : List En) : Bool := decide (l.length ≤ 40) && !(l.any fun x => decide (50 < x.1.size))
set_option maxRecDepth 100000 in
set_option maxHeartbeats 1000000 in
theorem entries_any (v : Value) (l : List En) (w : World) (h : EntsAt w v l) (hs : ∀ x ∈ l, x.1.size ≤ maxLen) :
    Calls Tryd.prog 10 #[v] w fun e w' => e = .returned (.bool (entB l)) ∧ Below w.heap.size w w' := by
  obtain ⟨N, HN⟩ : ∃ N, Hid (N = l.length) := ⟨_, rfl⟩
  obtain ⟨p, cp, rfl, _⟩ := ents_open h N HN.out
  obtain ⟨r, Hr⟩ : ∃ r, Hid (entB l = r) := ⟨_, rfl⟩
  rw [Hr.out]
  by_cases h40 : N ≤ 40
  · have h40i : (N : Int) ≤ 40 := by omega
    obtain ⟨b, Hb⟩ : ∃ b, Hid (l.any (fun x => decide (50 < x.1.size)) = b) := ⟨_, rfl⟩
    have hh := has0_any 26 heavyE_any_fid (fun x => decide (50 < x.1.size)) _ l w h (by rw [← HN.out]; omega) (fun y hy W _ => heavyE_any y W (hs y hy))
    rw [Hb.out] at hh
    have HH := Lib.hid hh
    have HR : Hid (r = !b) := by
      show _ = _
      rw [← Hr.out]; unfold entB; rw [Hb.out, ← HN.out, decide_eq_true h40]; rfl
    clear h hs hh
    go_enter Tryd.func10, Tryd.ntmps10
    go_wp2_with fail
    refine HH.out.mono ?_
    rintro e w1 ⟨rfl, hb⟩
    go_wp2
    go_ret
    exact ⟨by rw [HR.out]; rfl, hb⟩
  · have h40i : ¬ (N : Int) ≤ 40 := by omega
    have HR : Hid (r = false) := by
      show _ = _
      rw [← Hr.out]; unfold entB; rw [← HN.out, decide_eq_false h40]; rfl
    clear h hs
    go_enter Tryd.func10, Tryd.ntmps10
    go_wp2
    go_ret
    exact ⟨by rw [HR.out]; rfl, Below.refl _ _⟩

def L0 : List En := [(⟨#[99]⟩, 4), (⟨#[97]⟩, 2), (⟨#[98]⟩, 3)]
def S0 : List En := [(⟨#[97]⟩, 2), (⟨#[98]⟩, 3), (⟨#[99]⟩, 4)]
def D0 : List Int := [98, 0, 0, 0, 0, 0, 0, 0, 0, 0, 0, 0, 0, 0, 3, 0, 97, 0, 0, 0, 0, 0, 0, 0, 0, 0, 0, 0, 0, 0, 2, 0, 99, 0, 0, 0, 0, 0, 0, 0, 0, 0, 0, 0, 0, 0, 4, 0]
theorem S0_perm : S0.Perm L0 := by decide
theorem S0_rising : Rising S0 := by
  have h1 : lexB ⟨#[97]⟩ ⟨#[98]⟩ = true := by unfold lexB; rw [Lib.toList_data, Lib.toList_data]; rfl
  have h2 : lexB ⟨#[97]⟩ ⟨#[99]⟩ = true := by unfold lexB; rw [Lib.toList_data, Lib.toList_data]; rfl
  have h3 : lexB ⟨#[98]⟩ ⟨#[99]⟩ = true := by unfold lexB; rw [Lib.toList_data, Lib.toList_data]; rfl
  unfold Rising S0
  simp [h1, h2, h3]
theorem L0_right : rightD L0 = 0 := by
  rw [rightD_zero]
  refine ⟨by decide, fun x hx => ?_, by decide⟩
  have h : ∀ b : UInt8, b = 97 ∨ b = 98 ∨ b = 99 → nameB ⟨#[b]⟩ = true := fun b hb => by
    unfold nameB
    rw [Lib.toList_data]
    rcases hb with rfl | rfl | rfl <;> rfl
  unfold L0 at hx
  simp only [List.mem_cons, List.not_mem_nil, or_false] at hx
  unfold okE
  rcases hx with rfl | rfl | rfl
  · rw [h 99 (by simp)]; rfl
  · rw [h 97 (by simp)]; rfl
  · rw [h 98 (by simp)]; rfl
theorem lay0 : layD L0 = D0 := by
  unfold layD
  rw [← sortD_eq S0_perm S0_rising]
  rfl
theorem D0_ok : listOk D0 = true := by rw [← lay0]; exact list_lay L0_right
theorem find0 : findD D0 ⟨#[97]⟩ = (2, 2, 0) := by
  have r0 : rdE D0 0 = (⟨#[98]⟩, 3) := by rfl
  have r1 : rdE D0 1 = (⟨#[97]⟩, 2) := by rfl
  have h1 : cmpB ⟨#[97]⟩ ⟨#[98]⟩ = -1 := by
    unfold cmpB lexB; rw [Lib.toList_data, Lib.toList_data]; rfl
  have h2 : cmpB ⟨#[97]⟩ ⟨#[97]⟩ = 0 := by
    unfold cmpB; rw [lex_irrefl]; rfl
  unfold findD
  rw [show D0.length / 16 = 3 from rfl, findF, if_pos (by omega), r0, if_neg (by rw [h1]; decide), if_pos (by rw [h1]; decide), findF, if_pos (by omega), r1, if_pos h2]

set_option maxRecDepth 100000 in
set_option maxHeartbeats 2000000 in
theorem laid_true (w : World) : Calls Tryd.prog 9 #[] w fun e w' => e = .returned (.bool true) ∧ Below w.heap.size w w' := by
  obtain ⟨w1, HW1⟩ : ∃ W, Hid (w.alloc (.cells #[.string ⟨#[99]⟩, .int .i64 4, .string ⟨#[97]⟩, .int .i64 2, .string ⟨#[98]⟩, .int .i64 3] 33) = W) := ⟨_, rfl⟩
  have hb1 : Below w.heap.size w w1 := by rw [← HW1.out]; exact (Below.refl _ _).alloc (Nat.le_refl _) _
  have hx : w1.heap[w.heap.size]? = some (.cells #[.string ⟨#[99]⟩, .int .i64 4, .string ⟨#[97]⟩, .int .i64 2, .string ⟨#[98]⟩, .int .i64 3] 33 (0, 0)) := by rw [← HW1.out]; exact heap_alloc_new _ _
  have hat : EntsAt w1 (.slice (some ⟨w.heap.size, 0, none⟩) 3 3) L0 := by
    refine ⟨rfl, Or.inr ⟨w.heap.size, 0, 3, rfl, fun j x hj => ?_⟩⟩
    rw [cell_of_row _ _ _ _ _ _ hx, ← hj, Nat.zero_add, ← Array.getElem?_toList]
    rfl
  have hcap : CapOk (.slice (some ⟨w.heap.size, 0, none⟩) 3 3) := fun p n c h => by injection h with _ e2 e3; omega
  have HL := Lib.hid (lay_ok _ L0 w1 ⟨hat, hcap⟩ L0_right)
  have HB1 := Lib.hid hb1
  clear hb1 hx hat hcap
  go_enter Tryd.func9, Tryd.ntmps9
  go_wp2_with fail
  rw [HW1.out]
  refine HL.out.mono ?_
  rintro e w2 ⟨v, rfl, hv, hb2⟩
  rw [lay0] at hv
  have HB2 : Hid (Below w.heap.size w w2) := Below.step HB1.out hb2
  have HF := Lib.hid (find_any v D0 ⟨#[97]⟩ w2 hv (by rw [← lay0]; exact byteL_lay L0_right) D0_ok)
  rw [find0] at HF
  obtain ⟨g, o, c, rfl, hc⟩ : ∃ g o c, v = .slice (some ⟨g, o, none⟩) 48 c ∧ ∀ (j : Nat) (x : Value), (u8s D0)[j]? = some x → w2.cell? ⟨g, o + j, none⟩ = some x := by
    obtain ⟨_, ⟨h0, _⟩ | ⟨g, o, cap, hv2, hc⟩⟩ := hv.1
    · exact absurd h0 (by decide)
    · exact ⟨g, o, cap, hv2, hc⟩
  have c0 : w2.cell? ⟨g, o, none⟩ = some (.int .u8 98) := hc 0 _ rfl
  have c14 : w2.cell? ⟨g, o + 14, none⟩ = some (.int .u8 3) := hc 14 _ rfl
  have c16 : w2.cell? ⟨g, o + 16, none⟩ = some (.int .u8 97) := hc 16 _ rfl
  have c32 : w2.cell? ⟨g, o + 32, none⟩ = some (.int .u8 99) := hc 32 _ rfl
  have hlt : g < w2.heap.size := block_lt_of_cell c0
  clear hv hb2 hc
  go_wp2_with fail
  refine HF.out.mono ?_
  rintro e w3 ⟨rfl, hb3⟩
  have d0 : w3.cell? ⟨g, o, none⟩ = some (.int .u8 98) := (hb3.cell (p := ⟨g, o, none⟩) hlt).trans c0
  have d14 : w3.cell? ⟨g, o + 14, none⟩ = some (.int .u8 3) := (hb3.cell (p := ⟨g, o + 14, none⟩) hlt).trans c14
  have d16 : w3.cell? ⟨g, o + 16, none⟩ = some (.int .u8 97) := (hb3.cell (p := ⟨g, o + 16, none⟩) hlt).trans c16
  have d32 : w3.cell? ⟨g, o + 32, none⟩ = some (.int .u8 99) := (hb3.cell (p := ⟨g, o + 32, none⟩) hlt).trans c32
  have HB3 : Hid (Below w.heap.size w w3) := Below.step HB2.out hb3
  clear hb3 c0 c14 c16 c32
  go_wp2
  go_ret
  exact ⟨rfl, HB3.out⟩
end Go.Proofs.YtheiaebmemcbhaaDoor
