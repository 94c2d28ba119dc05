/- Two lists of writes that are alike: EqualFunc. -/
import Derived.Test.YtdcplaonafmbjaaJState
namespace Go.Proofs.Ytdcplaonafmbjaa
open Go.RowKit

theorem JwOk.slice {w : World} {x : Jw} (h : JwOk w x) : ∃ p c, x.v = .slice p 64 c := h.shape
theorem JwOk.conv {w : World} {x : Jw} (h : JwOk w x) : (convert 42 9 x.v).run Try.prog w = .ok (.string (bytesS x.D)) w := conv_bytes h.2.1 (by rw [h.2.2]; omega)

set_option maxRecDepth 100000 in
set_option maxHeartbeats 1000000 in
theorem eqW2_any (x y : Jw) (w : World) (hx : JwOk w x) (hy : JwOk w y) (h : jab x = jab y) :
    Calls Try.prog 18 #[.agg #[.int .i64 (x.n : Int), x.v], .agg #[.int .i64 (y.n : Int), y.v]] w fun e w' => e = .returned (.bool true) ∧ Below w.heap.size w w' := by
  obtain ⟨px, cx, hxv⟩ := hx.slice
  obtain ⟨py, cy, hyv⟩ := hy.slice
  have hn : y.n = x.n := (congrArg Prod.fst h).symm
  have hD : y.D = x.D := (congrArg Prod.snd h).symm
  have hb : ∀ o o2, Below w.heap.size w ((w.alloc o).alloc o2) := fun o o2 => ((Below.refl _ _).alloc (Nat.le_refl _) o).alloc (by simp) o2
  have c1 : ∀ o o2, (convert 42 9 x.v).run Try.prog ((w.alloc o).alloc o2) = .ok (.string (bytesS x.D)) ((w.alloc o).alloc o2) := fun o o2 => (hx.below (hb o o2)).conv
  have c2 : ∀ o o2, (convert 42 9 y.v).run Try.prog ((w.alloc o).alloc o2) = .ok (.string (bytesS x.D)) ((w.alloc o).alloc o2) := fun o o2 => by rw [← hD]; exact (hy.below (hb o o2)).conv
  rw [hn]
  generalize x.n = n at *
  generalize bytesS x.D = D at c1 c2
  rw [hxv] at c1 ⊢
  rw [hyv] at c2 ⊢
  clear hx hy h hn hD
  go_enter Try.func18, Try.ntmps18
  go_wp2
  go_ret
  exact ⟨rfl, hb _ _⟩

set_option maxRecDepth 100000 in
set_option maxHeartbeats 2000000 in
theorem eqWs_any (v1 v2 : Value) (E1 E2 : List Jw) (w : World) (h1 : JwsAt w v1 E1) (h2 : JwsAt w v2 E2) (h : E1.map jab = E2.map jab) (hl : E1.length ≤ 1000) :
    Calls Try.prog 17 #[v1, v2, .func (.func 18) #[] #[]] w fun e w' => e = .returned (.bool true) ∧ Below w.heap.size w w' := by
  obtain ⟨p1, q1, rfl, HP1⟩ := jws_open h1.1
  obtain ⟨p2, q2, rfl, HP2⟩ := jws_open h2.1
  obtain ⟨N, HN⟩ : ∃ N, Hid (E1.length = N) := ⟨_, rfl⟩
  have hlen := congrArg List.length h
  rw [List.length_map, List.length_map] at hlen
  have HN2 : Hid (E2.length = N) := by show _ = _; rw [← hlen]; exact HN.out
  rw [HN.out] at HP1 hl
  rw [HN2.out] at HP2
  rw [HN.out, HN2.out]
  have HC : Hid (∀ k (h1k : k < E1.length) (h2k : k < E2.length) (W : World), Below w.heap.size w W → Calls Try.prog 18 #[.agg #[.int .i64 (E1[k].n : Int), E1[k].v], .agg #[.int .i64 (E2[k].n : Int), E2[k].v]] W fun e w' => e = .returned (.bool true) ∧ Below W.heap.size W w') := fun k h1k h2k W hW =>
    eqW2_any E1[k] E2[k] W ((h1.2 _ (List.getElem_mem h1k)).below hW) ((h2.2 _ (List.getElem_mem h2k)).below hW) (by
      have := congrArg (fun l => l[k]?) h
      simpa [h1k, h2k] using this)
  have HS1 := Lib.hid (fun k (hk : k < E1.length) => (h1.2 _ (List.getElem_mem hk)).slice)
  have HS2 := Lib.hid (fun k (hk : k < E2.length) => (h2.2 _ (List.getElem_mem hk)).slice)
  clear h1 h2 h hlen
  go_enter Try.func17, Try.ntmps17
  go_wp2
  go_loopw [17] (fun i wr => ∃ k : Nat, k ≤ N ∧ i = .int .i64 k ∧ Below w.heap.size w wr) (fun i _ => N - (intOf i).toNat)
  case atStart => exact ⟨0, Nat.zero_le _, rfl, Below.refl _ _⟩
  case round =>
    obtain ⟨k, hk, rfl, HB⟩ := hrel
    by_cases hlt : k < N
    · obtain ⟨ga, oa, rfl, hga, hca⟩ := HP1.out (by omega)
      obtain ⟨gb, ob, rfl, hgb, hcb⟩ := HP2.out (by omega)
      have h1k : k < E1.length := by rw [HN.out]; exact hlt
      have h2k : k < E2.length := by rw [HN2.out]; exact hlt
      obtain ⟨a0, a1⟩ := jcells_get E1 k h1k
      obtain ⟨b0, b1⟩ := jcells_get E2 k h2k
      obtain ⟨px, cx, hx⟩ := HS1.out k h1k
      obtain ⟨py, cy, hy⟩ := HS2.out k h2k
      have hcall := HC.out k h1k h2k
      rw [hx] at a1 hcall
      rw [hy] at b1 hcall
      obtain ⟨n, Hn⟩ : ∃ n, Hid (E1[k].n = n) := ⟨E1[k].n, rfl⟩
      obtain ⟨m, Hm⟩ : ∃ n, Hid (E2[k].n = n) := ⟨E2[k].n, rfl⟩
      rw [Hn.out] at a0 hcall
      rw [Hm.out] at b0 hcall
      have c0 := (HB.cell (p := ⟨ga, oa + k * 2, none⟩) hga).trans (hca _ _ a0)
      have c1 := (HB.cell (p := ⟨ga, oa + (k * 2 + 1), none⟩) hga).trans (hca _ _ a1)
      have d0 := (HB.cell (p := ⟨gb, ob + k * 2, none⟩) hgb).trans (hcb _ _ b0)
      have d1 := (HB.cell (p := ⟨gb, ob + (k * 2 + 1), none⟩) hgb).trans (hcb _ _ b1)
      rw [← Nat.add_assoc] at c1 d1
      have hlt2 : (k : Int) < (N : Int) := by omega
      have hgal : ga < wr.heap.size := Nat.lt_of_lt_of_le hga HB.size
      have hgan : ¬ ga = wr.heap.size := by omega
      have hgbl : gb < wr.heap.size := Nat.lt_of_lt_of_le hgb HB.size
      have hgbn : ¬ gb = wr.heap.size := by omega
      have HCL := Lib.hid hcall
      have hb2 : ∀ o o2, Below w.heap.size w ((wr.alloc o).alloc o2) := fun o o2 => (HB.alloc HB.size o).alloc (by have := HB.size; simp; omega) o2
      have HB2 := Lib.hid hb2
      clear hca hcb a0 a1 b0 b1 hx hy hcall hb2
      go_wp2_with fail
      refine (HCL.out _ (HB2.out _ _)).mono ?_
      rintro e w1 ⟨rfl, hb1⟩
      have hB1 := Below.step (HB2.out _ _) hb1
      clear hb1
      go_wp2
      go_roundw
      case rel => exact ⟨k + 1, by omega, by go_num, hB1⟩
      case measure => simp [intOf]; omega
    · go_wp2
      go_ret
      exact ⟨rfl, HB⟩

end Go.Proofs.Ytdcplaonafmbjaa
