/- copy at elements of several cells; slices.Clone of rows of quotas. -/
import Derived.Test.YtneknlbmiofmlaaExt
import Derived.Test.YtneknlbmiofmlaaLaws
import Derived.Laws.CopyRow
import Derived.Laws.AppendOwn
import Derived.StillTailTactics
namespace Go.Proofs.Ytneknlbmiofmlaa
open Go.RowKit

section
variable {P : Program}
theorem run_copy_rowk (w : World) (dT sT ty elem : TypeId) (k : Nat) (g o dLen dCap : Nat) (a : Addr) (sLen sCap : Nat) (cur : Array Value) (t : TypeId) (cs : List Value)
    (hu : P.underlying dT = some (.slice elem)) (hs : (P.info? elem).map (·.size) = some k)
    (hg : w.heap[g]? = some (.cells cur t (0, 0))) (hn : cs.length = Nat.min sLen dLen * k)
    (hsrc : ∀ j v, cs[j]? = some v → w.cell? (a.add j) = some v) (hfit : o + cs.length ≤ cur.size) (h1 : ∀ v ∈ cs, v.oneCell' = true) :
    (Builtin.copy_ #[dT, sT] ty #[.slice (some ⟨g, o, none⟩) dLen dCap, .slice (some a) sLen sCap]).run P w =
      .ok (goInt (Nat.min sLen dLen)) (w.setRow g (cur.toList.take o ++ cs ++ cur.toList.drop (o + cs.length)).toArray) := by
  have hl := run_loadCells_list (P := P) w a cs hsrc
  have hst := run_storeCells_at P g o t cs 0 cur w hg (by simpa using hfit) h1
  cases hq : P.info? elem with
  | none => simp [hq] at hs
  | some i =>
    have hi : i.size = k := by simpa [hq] using hs
    rw [hn] at hl
    simp only [Nat.add_zero] at hst
    simp [Builtin.copy_, run_underlying hu, Builtin.lenOf, Builtin.firstCells, sizeOf, typeInfo, hq, hi, hl, hst]
end

theorem rowT : Try.prog.underlying 56 = some (.slice 63) := by kernel_rfl
theorem rowInfo : (Try.prog.info? 63).map (fun i => (i.zero, i.size, i.bytes)) = some (some (.agg #[.int .i64 0, .int .i64 0]), 2, 16) := by kernel_rfl
theorem rowS : (Try.prog.info? 63).map (·.size) = some 2 := by kernel_rfl
theorem pairs_one (l : List (Int × Int)) : ∀ v ∈ pairs l, v.oneCell' = true := by
  intro v hv
  unfold pairs at hv
  rw [List.mem_flatMap] at hv
  obtain ⟨x, _, hx⟩ := hv
  simp at hx
  rcases hx with rfl | rfl <;> rfl

def RowsRes (B : Nat) (l : List (Int × Int)) (w : World) (e : Ending) (w' : World) : Prop :=
  ∃ v, e = .returned v ∧ w'.ownsRow B 63 2 v l.length (pairs l) ∧ Below B w w' ∧ w.heap.size ≤ w'.heap.size

set_option maxHeartbeats 1000000 in
theorem rowsClone_any (v : Value) (l : List (Int × Int)) (w : World) (h : RowAt w v 2 l.length (pairs l)) (h1 : l.length ≤ 1000000) :
    Calls Try.prog 44 #[v] w (RowsRes w.heap.size l w) := by
  obtain ⟨i0, hi, hz0, hz1, hz2⟩ := info_parts rowInfo
  have HI := Lib.hid hi
  have HZ0 := Lib.hid hz0
  have HZ1 := Lib.hid hz1
  have HZ2 := Lib.hid hz2
  clear hi hz0 hz1 hz2
  obtain ⟨n, HN⟩ : ∃ n, Hid (n = l.length) := ⟨_, rfl⟩
  obtain ⟨a, c, hv, HC⟩ : ∃ a c, v = .slice a n c ∧ Hid (∀ ad, a = some ad → ∀ j u, (pairs l)[j]? = some u → w.cell? (ad.add j) = some u) ∧ (a = none → n = 0) := by
    obtain ⟨hl, ⟨hn, a, c, rfl⟩ | ⟨g, o, c, rfl, hc⟩⟩ := h
    · refine ⟨a, c, by rw [HN.out, hn], fun ad _ j u hj => ?_, fun _ => by rw [HN.out]; exact hn⟩
      have := (List.getElem?_eq_some_iff.1 hj).1
      omega
    · refine ⟨_, c, by rw [HN.out], fun ad hd j u hj => ?_, fun h => by cases h⟩
      cases hd
      have hadd : (⟨g, o, none⟩ : Addr).add j = ⟨g, o + j, none⟩ := by unfold Addr.add; split <;> simp_all
      rw [hadd]; exact hc j u hj
  obtain ⟨HC, HE⟩ := HC
  subst hv
  have hpl : (pairs l).length = n * 2 := by rw [pairs_len, ← HN.out]
  have HPL := Lib.hid hpl
  rw [← HN.out] at h1
  clear hpl h
  unfold RowsRes
  rw [← HN.out]
  have q22 : ∀ (w : World) (a : Option Addr) (n c n' c' : Nat), (binOp .eql 56 (.slice a n c) (.slice none n' c')).run Try.prog w = .ok (.bool a.isNone) w := fun w a n c n' c' => Lib.run_eql_slice_nil w _ _ a n c n' c' rowT
  cases a with
  | none =>
    have HE0 := Lib.hid (HE rfl)
    clear HE
    go_enter Try.func44, Try.ntmps44
    go_wp2
    go_ret
    exact ⟨_, rfl, ⟨HPL.out, Or.inl ⟨rfl, HE0.out⟩⟩, Below.refl _ _, Nat.le_refl _⟩
  | some ad =>
    clear HE
    go_enter Try.func44, Try.ntmps44
    go_wp2_with (at_builtin; refine wpList_append_own _ rfl _ _ 56 rfl w.heap.size 63 i0 (.agg #[.int .i64 0, .int .i64 0]) 2 16 rowT HI.out HZ0.out HZ1.out HZ2.out rfl (by decide) _ _ _ rfl (World.ownsRow_made w #[] 0 (Nat.le_refl _) (Nat.zero_le _) rfl) ad n c (pairs l) rfl ?qc1 ?qc2 ?qc3 ?qc4 ?qc5 ?qc6 ?_)
    case qc1 => exact HPL.out
    case qc2 =>
      intro j u hj
      have := HC.out ad rfl j u hj
      rw [World.cell?_alloc_lt _ _ _ (block_lt_of_cell this)]
      exact this
    case qc3 => exact pairs_one l
    case qc4 => unfold maxLen; omega
    case qc5 => omega
    case qc6 => simp
    intro v' w1 hown hgrow hnil
    have hb : Below w.heap.size w w1 := ((Below.refl _ w).alloc (Nat.le_refl _) _).grown hgrow (by simp) (by intro k hk; simp [Value.ownBlock] at hk; omega)
    clear hgrow hnil
    go_wp2
    go_ret
    exact ⟨v', rfl, hown, hb, hb.size⟩

end Go.Proofs.Ytneknlbmiofmlaa
