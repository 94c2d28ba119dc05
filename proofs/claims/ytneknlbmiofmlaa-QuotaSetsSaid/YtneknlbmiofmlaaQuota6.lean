/- slices.DeleteFunc of rows: any. -/
import Derived.Test.YtneknlbmiofmlaaQuota5
namespace Go.Proofs.Ytneknlbmiofmlaa
open Go.RowKit

set_option maxHeartbeats 1000000 in
theorem delete_none (B : Nat) (a : Option Addr) (n c : Nat) (l : List (Int × Int)) (u : Int) (gc : Nat) (w : World) (hBw : B ≤ w.heap.size) (hcu : w.cell? ⟨gc, 0, none⟩ = some (.int .i64 u)) (hn : n = l.length) (hl : n ≤ 1000000)
    (hown : w.ownsRow B 63 2 (.slice a n c) l.length (pairs l)) (HI : Hid (idxQ l u = none)) (HO : Hid (othQ l u = l)) :
    Calls Try.prog 43 #[.slice a n c, fnV gc] w (RowsRes B (othQ l u) w) := by
  have hrow := RowAt.of_owns hown
  have HIX := index_any _ l u gc w hrow (by omega) hcu
  have HII : Hid (idxI l u = -1) := by show _ = _; unfold idxI; rw [HI.out]
  rw [HII.out] at HIX
  have HIXH := Lib.hid HIX
  have HOWN := Lib.hid hown
  clear HIX hrow hcu hown hn
  unfold fnV
  unfold fnV at HIXH
  go_enter Try.func43, Try.ntmps43
  go_wp2_with fail
  refine HIXH.out.mono ?_
  rintro e w1 ⟨rfl, hb1⟩
  have hB1 : Below B w w1 := hb1.mono hBw
  have hz1 : w.heap.size ≤ w1.heap.size := hb1.size
  have HO1 : Hid (w1.ownsRow B 63 2 (.slice a n c) l.length (pairs l)) := owns_below HOWN.out hb1
  clear hb1
  go_wp2
  go_ret
  refine ⟨_, rfl, ?_, hB1, hz1⟩
  rw [HO.out]
  exact HO1.out

theorem delete_any (B : Nat) (v : Value) (l : List (Int × Int)) (u : Int) (gc : Nat) (w : World) (hBw : B ≤ w.heap.size) (hgc : gc < B) (hcu : w.cell? ⟨gc, 0, none⟩ = some (.int .i64 u)) (hl : l.length ≤ 1000000)
    (hown : w.ownsRow B 63 2 v l.length (pairs l)) :
    Calls Try.prog 43 #[v, fnV gc] w (RowsRes B (othQ l u) w) := by
  rcases idxQ_spec l u with ⟨h1, h2⟩ | ⟨k, hk, h1, h2, h3⟩
  · obtain ⟨q, c, rfl, _⟩ := owns_slice hown
    exact delete_none B q _ c l u gc w hBw hcu rfl hl hown h1 (othQ_all h2)
  · obtain ⟨hlen, ⟨_, h0⟩ | ⟨g, cap, cur, rfl, hg, hh, hc, hm, hs, ht⟩⟩ := hown
    · omega
    · exact delete_some B g cap cur l u gc _ k w hg (heap_lt hh) hBw hgc hcu rfl hl hc hm hh hs ht hk h1 h3 (fun _ => h2)

end Go.Proofs.Ytneknlbmiofmlaa
