/- slices.Clone of ints. -/
import Derived.Test.YtablomjaaifgfaaExtPlain
import Derived.Test.YtablomjaaifgfaaProg
import Derived.Lib.Hide
import Derived.Lib.SliceRun
import Derived.OwnWalk
import Derived.WalkKit
import Derived.Laws.AppendOwn
namespace Go.Proofs.Ytablomjaaifgfaa
open Go.RowKit

theorem intInfoC : (Try.prog.info? 3).map (fun i => (i.zero, i.size, i.bytes)) = some (some (.int .i64 0), 1, 8) := by kernel_rfl
theorem intsTC : Try.prog.underlying 22 = some (.slice 3) := by kernel_rfl
theorem ints_oneC (l : List Int) : ∀ u ∈ ints l, u.oneCell' = true := by
  intro u hu
  simp only [ints, List.mem_map] at hu
  obtain ⟨x, _, rfl⟩ := hu
  rfl
def IntsRes (B : Nat) (l : List Int) (w : World) (e : Ending) (w' : World) : Prop := ∃ v, e = .returned v ∧ w'.ownsRow B 3 1 v l.length (ints l) ∧ Below B w w' ∧ w.heap.size ≤ w'.heap.size

set_option maxRecDepth 100000 in
set_option maxHeartbeats 1000000 in
theorem cloneInts_any (v : Value) (l : List Int) (w : World) (h : IntsAt w v l) (h1 : l.length ≤ 1000000) :
    Calls Try.prog 10 #[v] w (IntsRes w.heap.size l w) := by
  obtain ⟨i0, hi, hz0, hz1, hz2⟩ := info_parts intInfoC
  have HI := Lib.hid hi
  have HZ0 := Lib.hid hz0
  have HZ1 := Lib.hid hz1
  have HZ2 := Lib.hid hz2
  clear hi hz0 hz1 hz2
  obtain ⟨n, HN⟩ : ∃ n, Hid (n = l.length) := ⟨_, rfl⟩
  obtain ⟨a, c, hv, HC⟩ : ∃ a c, v = .slice a n c ∧ Hid (∀ ad, a = some ad → ∀ j u, (ints l)[j]? = some u → w.cell? (ad.add j) = some u) ∧ (a = none → n = 0) := by
    obtain ⟨hl, ⟨hn, a, c, rfl⟩ | ⟨g, o, c, rfl, hc⟩⟩ := h
    · refine ⟨a, c, by rw [HN.out, hn], fun ad _ j u hj => ?_, fun _ => by rw [HN.out]; exact hn⟩
      have := (List.getElem?_eq_some_iff.1 hj).1
      omega
    · refine ⟨_, c, by rw [HN.out], fun ad hd j u hj => ?_, fun h => by cases h⟩
      cases hd
      have hadd : (⟨g, o, none⟩ : Addr).add j = ⟨g, o + j, none⟩ := by unfold Addr.add; split <;> simp_all
      rw [hadd]; exact hc j u hj
  obtain ⟨HC, HE⟩ := HC
  subst hv
  have hpl : (ints l).length = n * 1 := by rw [Nat.mul_one, HN.out]; simp [ints]
  have HPL := Lib.hid hpl
  rw [← HN.out] at h1
  clear hpl h
  unfold IntsRes
  rw [← HN.out]
  have q22 : ∀ (w : World) (a : Option Addr) (n c n' c' : Nat), (binOp .eql 22 (.slice a n c) (.slice none n' c')).run Try.prog w = .ok (.bool a.isNone) w := fun w a n c n' c' => Lib.run_eql_slice_nil w _ _ a n c n' c' intsTC
  cases a with
  | none =>
    have HE0 := Lib.hid (HE rfl)
    clear HE
    go_enter Try.func10, Try.ntmps10
    go_wp2
    go_ret
    exact ⟨_, rfl, ⟨HPL.out, Or.inl ⟨rfl, HE0.out⟩⟩, Below.refl _ _, Nat.le_refl _⟩
  | some ad =>
    clear HE
    go_enter Try.func10, Try.ntmps10
    go_wp2_with (at_builtin; refine wpList_append_own _ rfl _ _ 22 rfl w.heap.size 3 i0 (.int .i64 0) 1 8 intsTC HI.out HZ0.out HZ1.out HZ2.out rfl (by decide) _ _ _ rfl (World.ownsRow_made w #[] 0 (Nat.le_refl _) (Nat.zero_le _) rfl) ad n c (ints l) rfl ?qc1 ?qc2 ?qc3 ?qc4 ?qc5 ?qc6 ?_)
    case qc1 => exact HPL.out
    case qc2 =>
      intro j u hj
      have := HC.out ad rfl j u hj
      rw [World.cell?_alloc_lt _ _ _ (block_lt_of_cell this)]
      exact this
    case qc3 => exact ints_oneC l
    case qc4 => unfold maxLen; omega
    case qc5 => omega
    case qc6 => simp
    intro v' w1 hown hgrow hnil
    have hb : Below w.heap.size w w1 := ((Below.refl _ w).alloc (Nat.le_refl _) _).grown hgrow (by simp) (by intro k hk; simp [Value.ownBlock] at hk; omega)
    clear hgrow hnil
    go_wp2
    go_ret
    exact ⟨v', rfl, hown, hb, hb.size⟩


end Go.Proofs.Ytablomjaaifgfaa
