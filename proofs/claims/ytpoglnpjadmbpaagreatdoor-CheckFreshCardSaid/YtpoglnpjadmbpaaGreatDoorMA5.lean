/- Part of the proofs of CheckFresh, FsCut, FsHoles: the texts IntsClone, Ents. -/
import Derived.Test.YtpoglnpjadmbpaaGreatDoorMA2
import Derived.Test.YtpoglnpjadmbpaaGreatDoorProg
import Derived.Lib.Hide
import Derived.Lib.SliceRun
import Derived.OwnWalk
import Derived.Laws.AppendOwn
set_option maxHeartbeats 16000000
namespace Go.Proofs.YtpoglnpjadmbpaaGreatDoor
open Go.RowKit
theorem qku : (Tryz.prog.info? 3).map (fun i => (i.zero, i.size, i.bytes)) = some (some (.int .i64 0), 1, 8) := by kernel_rfl
theorem qpg : Tryz.prog.underlying 32 = some (.slice 3) := by kernel_rfl
theorem ybmy (l : List Int) : ∀ u ∈ ints l, u.oneCell' = true := by
 intro u hu
 simp only [ints, List.mem_map] at hu
 obtain ⟨x, _, rfl⟩ := hu
 rfl
def ybcd (B : Nat) (l : List Int) (w : World) (e : Ending) (w' : World) : Prop := ∃ v, e = .returned v ∧ w'.ownsRow B 3 1 v l.length (ints l) ∧ Below B w w' ∧ w.heap.size ≤ w'.heap.size
set_option maxRecDepth 100000 in
theorem qgh (v : Value) (l : List Int) (w : World) (h : qan w v l) (h1 : l.length ≤ 1000000) :
  Calls Tryz.prog 49 #[v] w (ybcd w.heap.size l w) := by
 obtain ⟨i0, hi, hz0, hz1, hz2⟩ := info_parts qku
 have HI := Lib.hid hi
 have HZ0 := Lib.hid hz0
 have HZ1 := Lib.hid hz1
 have HZ2 := Lib.hid hz2
 clear hi hz0 hz1 hz2
 obtain ⟨n, HN⟩ : ∃ n, Hid (n = l.length) := ⟨_, rfl⟩
 obtain ⟨a, c, hv, HC⟩ : ∃ a c, v = .slice a n c ∧ Hid (∀ ad, a = some ad → ∀ j u, (ints l)[j]? = some u → w.cell? (ad.add j) = some u) ∧ (a = none → n = 0) := by
  obtain ⟨hl, ⟨hn, a, c, rfl⟩ | ⟨g, o, c, rfl, hc⟩⟩ := h
  ·refine ⟨a, c, by rw [HN.out, hn], fun ad _ j u hj => ?_, fun _ => by rw [HN.out]; exact hn⟩
   have := (List.getElem?_eq_some_iff.1 hj).1
   omega
  ·refine ⟨_, c, by rw [HN.out], fun ad hd j u hj => ?_, fun h => by cases h⟩
   cases hd
   have hadd : (⟨g, o, none⟩ : Addr).add j = ⟨g, o + j, none⟩ := by unfold Addr.add; split <;> simp_all
   rw [hadd]; exact hc j u hj
 obtain ⟨HC, HE⟩ := HC
 subst hv
 have hpl : (ints l).length = n * 1 := by rw [Nat.mul_one, HN.out]; simp [ints]
 have HPL := Lib.hid hpl
 rw [← HN.out] at h1
 clear hpl h
 unfold ybcd
 rw [← HN.out]
 have q22 : ∀ (w : World) (a : Option Addr) (n c n' c' : Nat), (binOp .eql 32 (.slice a n c) (.slice none n' c')).run Tryz.prog w = .ok (.bool a.isNone) w := fun w a n c n' c' => Lib.run_eql_slice_nil w _ _ a n c n' c' qpg
 cases a with
 | none =>
  have HE0 := Lib.hid (HE rfl)
  clear HE
  go_enter Tryz.func49, Tryz.ntmps49
  go_wp2
  go_ret
  exact ⟨_, rfl, ⟨HPL.out, Or.inl ⟨rfl, HE0.out⟩⟩, Below.refl _ _, Nat.le_refl _⟩
 | some ad =>
  clear HE
  go_enter Tryz.func49, Tryz.ntmps49
  go_wp2_with (at_builtin; refine wpList_append_own _ rfl _ _ 32 rfl w.heap.size 3 i0 (.int .i64 0) 1 8 qpg HI.out HZ0.out HZ1.out HZ2.out rfl (by decide) _ _ _ rfl (World.ownsRow_made w #[] 0 (Nat.le_refl _) (Nat.zero_le _) rfl) ad n c (ints l) rfl ?qc1 ?qc2 ?qc3 ?qc4 ?qc5 ?qc6 ?_)
  case qc1 => exact HPL.out
  case qc2 =>
   intro j u hj
   have := HC.out ad rfl j u hj
   rw [World.cell?_alloc_lt _ _ _ (block_lt_of_cell this)]
   exact this
  case qc3 => exact ybmy l
  case qc4 => unfold maxLen; omega
  case qc5 => omega
  case qc6 => simp
  intro v' w1 hown hgrow hnil
  have hb : Below w.heap.size w w1 := ((Below.refl _ w).alloc (Nat.le_refl _) _).grown hgrow (by simp) (by intro k hk; simp [Value.ownBlock] at hk; omega)
  clear hgrow hnil
  go_wp2
  go_ret
  exact ⟨v', rfl, hown, hb, hb.size⟩
abbrev En := ByteArray × Int
def ents (l : List En) : List Value := l.flatMap fun x => [.string x.1, .int .i64 x.2]
theorem qqf (l : List En) : (ents l).length = l.length * 2 := by
 induction l with
 | nil => rfl
 | cons x l ih => simp only [ents, List.flatMap_cons, List.length_append, List.length_cons, List.length_nil] at *; omega
theorem qlu (a b : List En) : ents (a ++ b) = ents a ++ ents b := by simp [ents]
theorem qwq (l : List En) (k : Nat) (hk : k < l.length) : (ents l)[k * 2]? = some (.string l[k].1) ∧ (ents l)[k * 2 + 1]? = some (.int .i64 l[k].2) := by
 induction l generalizing k with
 | nil => simp at hk
 | cons x l ih =>
  cases k with
  | zero => simp [ents]
  | succ k =>
   have := ih k (by simpa using hk)
   simp only [ents, List.flatMap_cons, List.cons_append, List.nil_append] at this ⊢
   rw [show (k + 1) * 2 = k * 2 + 1 + 1 by omega, show k * 2 + 1 + 1 + 1 = (k * 2 + 1) + 1 + 1 by omega]
   simpa using this
def qcx (w : World) (v : Value) (l : List En) : Prop := qah w v 2 l.length (ents l)
theorem qeo {w : World} {v : Value} {l : List En} (h : qcx w v l) (N : Nat) (hN : N = l.length) : ∃ p cp, v = .slice p N cp ∧ (0 < N → ∃ g o, p = some ⟨g, o, none⟩ ∧ g < w.heap.size ∧ ∀ k (hk : k < l.length), w.cell? ⟨g, o + k * 2, none⟩ = some (.string l[k].1) ∧ w.cell? ⟨g, o + (k * 2 + 1), none⟩ = some (.int .i64 l[k].2)) := by
 subst hN
 obtain ⟨_, ⟨h0, a0, c0, rfl⟩ | ⟨g, o, cap, rfl, hc⟩⟩ := h
 ·exact ⟨a0, c0, by rw [h0], fun h => by omega⟩
 ·refine ⟨_, cap, rfl, fun h0 => ⟨g, o, rfl, block_lt_of_cell (hc _ _ (qwq l 0 h0).1), fun k hk => ⟨hc _ _ (qwq l k hk).1, hc _ _ (qwq l k hk).2⟩⟩⟩
theorem ybfg (l : List En) : ∀ u ∈ ents l, u.oneCell' = true := by
 intro u hu
 unfold ents at hu
 obtain ⟨x, _, hu⟩ := List.mem_flatMap.1 hu
 simp at hu
 rcases hu with rfl | rfl <;> rfl
theorem qwo : (Tryz.prog.info? 100).map (fun i => (i.zero, i.size, i.bytes)) = some (some (.agg #[.string { data := #[] }, .int .i64 0]), 2, 24) := by kernel_rfl
theorem yblq : Tryz.prog.underlying 28 = some (.slice 100) := by kernel_rfl
def ybki (B : Nat) (l : List En) (w : World) (e : Ending) (w' : World) : Prop := ∃ v, e = .returned v ∧ w'.ownsRow B 100 2 v l.length (ents l) ∧ Below B w w' ∧ w.heap.size ≤ w'.heap.size
set_option maxRecDepth 100000 in
theorem qwp (v : Value) (l : List (ByteArray × Int)) (w : World) (h : qah w v 2 l.length (ents l)) (h1 : l.length ≤ 1000000) :
  Calls Tryz.prog 118 #[v] w (ybki w.heap.size l w) := by
 obtain ⟨i0, hi, hz0, hz1, hz2⟩ := info_parts qwo
 have HI := Lib.hid hi
 have HZ0 := Lib.hid hz0
 have HZ1 := Lib.hid hz1
 have HZ2 := Lib.hid hz2
 clear hi hz0 hz1 hz2
 obtain ⟨n, HN⟩ : ∃ n, Hid (n = l.length) := ⟨_, rfl⟩
 obtain ⟨a, c, hv, HC⟩ : ∃ a c, v = .slice a n c ∧ Hid (∀ ad, a = some ad → ∀ j u, (ents l)[j]? = some u → w.cell? (ad.add j) = some u) ∧ (a = none → n = 0) := by
  obtain ⟨hl, ⟨hn, a, c, rfl⟩ | ⟨g, o, c, rfl, hc⟩⟩ := h
  ·refine ⟨a, c, by rw [HN.out, hn], fun ad _ j u hj => ?_, fun _ => by rw [HN.out]; exact hn⟩
   have := (List.getElem?_eq_some_iff.1 hj).1
   omega
  ·refine ⟨_, c, by rw [HN.out], fun ad hd j u hj => ?_, fun h => by cases h⟩
   cases hd
   have hadd : (⟨g, o, none⟩ : Addr).add j = ⟨g, o + j, none⟩ := by unfold Addr.add; split <;> simp_all
   rw [hadd]; exact hc j u hj
 obtain ⟨HC, HE⟩ := HC
 subst hv
 have hpl : (ents l).length = n * 2 := by rw [qqf, ← HN.out]
 have HPL := Lib.hid hpl
 rw [← HN.out] at h1
 clear hpl h
 unfold ybki
 rw [← HN.out]
 have q22 : ∀ (w : World) (a : Option Addr) (n c n' c' : Nat), (binOp .eql 28 (.slice a n c) (.slice none n' c')).run Tryz.prog w = .ok (.bool a.isNone) w := fun w a n c n' c' => Lib.run_eql_slice_nil w _ _ a n c n' c' yblq
 cases a with
 | none =>
  have HE0 := Lib.hid (HE rfl)
  clear HE
  go_enter Tryz.func118, Tryz.ntmps118
  go_wp2
  go_ret
  exact ⟨_, rfl, ⟨HPL.out, Or.inl ⟨rfl, HE0.out⟩⟩, Below.refl _ _, Nat.le_refl _⟩
 | some ad =>
  clear HE
  go_enter Tryz.func118, Tryz.ntmps118
  go_wp2_with (at_builtin; refine wpList_append_own _ rfl _ _ 28 rfl w.heap.size 100 i0 (.agg #[.string { data := #[] }, .int .i64 0]) 2 24 yblq HI.out HZ0.out HZ1.out HZ2.out rfl (by decide) _ _ _ rfl (World.ownsRow_made w #[] 0 (Nat.le_refl _) (Nat.zero_le _) rfl) ad n c (ents l) rfl ?qc1 ?qc2 ?qc3 ?qc4 ?qc5 ?qc6 ?_)
  case qc1 => exact HPL.out
  case qc2 =>
   intro j u hj
   have := HC.out ad rfl j u hj
   rw [World.cell?_alloc_lt _ _ _ (block_lt_of_cell this)]
   exact this
  case qc3 => exact ybfg l
  case qc4 => unfold maxLen; omega
  case qc5 => omega
  case qc6 => simp
  intro v' w1 hown hgrow hnil
  have hb : Below w.heap.size w w1 := ((Below.refl _ w).alloc (Nat.le_refl _) _).grown hgrow (by simp) (by intro k hk; simp [Value.ownBlock] at hk; omega)
  clear hgrow hnil
  go_wp2
  go_ret
  exact ⟨v', rfl, hown, hb, hb.size⟩
end Go.Proofs.YtpoglnpjadmbpaaGreatDoor
