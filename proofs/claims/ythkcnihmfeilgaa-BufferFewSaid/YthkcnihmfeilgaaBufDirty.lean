/- Dirty of a cache. -/
import Derived.Test.YthkcnihmfeilgaaBufHeld
import Derived.Test.YthkcnihmfeilgaaSortI
namespace Go.Proofs.Ythkcnihmfeilgaa
open Go.RowKit

/-- The sectors that must be written yet, as they stand. -/
def dirtyL (M : List Ab) : List Int := (M.filter fun x => x.2.2).map fun x => (x.1 : Int)
def dirtyE (E : List Sl) : List Int := (E.filter fun x => x.d).map fun x => (x.n : Int)
theorem dirtyE_ab (E : List Sl) : dirtyE E = dirtyL (E.map ab) := by
  unfold dirtyE dirtyL
  rw [List.filter_map, List.map_map]
  rfl
theorem dirtyE_append (a b : List Sl) : dirtyE (a ++ b) = dirtyE a ++ dirtyE b := by simp [dirtyE]
theorem dirtyE_le (E : List Sl) (k : Nat) : (dirtyE (E.take k)).length ≤ k := by
  unfold dirtyE
  rw [List.length_map]
  have h1 := List.length_filter_le (fun x : Sl => x.d) (E.take k)
  have h2 := List.length_take_le k E
  omega

set_option maxRecDepth 100000 in
set_option maxHeartbeats 2000000 in
theorem dirty_any {w : World} {c d : Value} {slots : Nat} {M : List Ab} {st : Dk} {k : Nat} {A F : Nat → Prop} (h : CacheAt w c d slots M st k A F) :
    Calls Try.prog 40 #[c] w (HeldRes (srtI (dirtyL M)) w) := by
  obtain ⟨E, rfl, gc, lv, rfl, h1, h2, h3⟩ := h
  have c2 := h1.c2
  obtain ⟨q, cp, hlv, hq⟩ := owns_slice h1.own
  have HL := Lib.hid (fun b hb => (h1.own.lt b hb).2)
  obtain ⟨n, HN⟩ : ∃ n, Hid (n = E.length) := ⟨_, rfl⟩
  have hn32 : n ≤ 32 := by rw [HN.out]; exact Nat.le_trans h1.len h1.s1
  rw [← HN.out] at hlv hq
  subst hlv
  have HQ := Lib.hid hq
  have HV : Hid (∀ x ∈ E, ∃ gx cx, x.v = .slice (some ⟨gx, 0, none⟩) 64 cx) := fun x hx => by
    obtain ⟨g', c', _, h1, _⟩ := h1.dat x hx
    exact ⟨g', c', h1⟩
  have hltc : gc < w.heap.size := h1.fin _ h1.agc
  clear h1 h2 h3 hq
  obtain ⟨i0, hi0, hz0, hz1, hz2⟩ := info_parts intInfo
  have HI := Lib.hid hi0
  have HZ0 := Lib.hid hz0
  have HZ1 := Lib.hid hz1
  have HZ2 := Lib.hid hz2
  clear hi0 hz0 hz1 hz2
  have HL0 : Hid (dirtyE (E.take n) = dirtyL (E.map ab)) := by show _ = _; rw [HN.out, List.take_length]; exact dirtyE_ab E
  go_enter Try.func40, Try.ntmps40
  go_wp2
  go_loopw [3, 11] (fun o i wr => ∃ k : Nat, k ≤ n ∧ i = .int .i64 k ∧ Hid (wr.ownsRow w.heap.size 3 1 o (dirtyE (E.take k)).length (ints (dirtyE (E.take k)))) ∧ Below w.heap.size w wr) (fun _ i _ => n - (intOf i).toNat)
  case atStart => exact ⟨0, Nat.zero_le _, rfl, World.ownsRow_nil _ _ _ _, Below.refl _ _⟩
  case round =>
    obtain ⟨k, hk, rfl, HO, HB⟩ := hrel
    by_cases hlt : k < n
    · have hkl : k < E.length := by rw [← HN.out]; exact hlt
      obtain ⟨g, rfl, _, hc⟩ := HQ.out (by omega)
      have hg : g < w.heap.size := HL.out g rfl
      obtain ⟨e0, e1, e2⟩ := scells_get E k hkl
      obtain ⟨gx, cx, hxv⟩ := HV.out _ (List.getElem_mem hkl)
      rw [hxv] at e1
      have c0 := (HB.cell (p := ⟨g, k * 3, none⟩) hg).trans (hc _ _ e0)
      have c1 := (HB.cell (p := ⟨g, k * 3 + 1, none⟩) hg).trans (hc _ _ e1)
      have c2 := (HB.cell (p := ⟨g, k * 3 + 2, none⟩) hg).trans (hc _ _ e2)
      obtain ⟨xn, Hxn⟩ : ∃ q, Hid (E[k].n = q) := ⟨E[k].n, rfl⟩
      obtain ⟨xd, Hxd⟩ : ∃ q, Hid (E[k].d = q) := ⟨E[k].d, rfl⟩
      rw [Hxn.out] at c0
      rw [Hxd.out] at c2
      have HT : Hid (dirtyE (E.take (k + 1)) = dirtyE (E.take k) ++ if xd = true then [(xn : Int)] else []) := by
        show _ = _
        rw [← List.take_append_getElem hkl, dirtyE_append]
        congr 1
        show dirtyE [E[k]] = _
        unfold dirtyE
        rw [List.filter_cons, Hxd.out]
        cases xd <;> simp [Hxn.out]
      have hdl : (dirtyE (E.take k)).length ≤ k := dirtyE_le _ _
      have hsz := HB.size
      have HOA := Lib.hid (fun o => HO.out.alloc o)
      have hlt' := HO.out.lt
      have HLT := Lib.hid (fun q hq => (hlt' q hq).1)
      have hbk : Below w.heap.size w (wr.alloc (.cells #[.int .i64 (xn : Int), .slice (some ⟨gx, 0, none⟩) 64 cx, .bool xd] 82)) := HB.alloc hsz _
      have HBK := Lib.hid hbk
      have HNB : Hid (((wr.alloc (.cells #[.int .i64 (xn : Int), .slice (some ⟨gx, 0, none⟩) 64 cx, .bool xd] 82)).alloc (.cells #[.int .i64 (xn : Int)] 3)).heap[wr.heap.size + 1]? = some (.cells #[.int .i64 (xn : Int)] 3 (0, 0))) := by
        have := heap_alloc_new (wr.alloc (.cells #[.int .i64 (xn : Int), .slice (some ⟨gx, 0, none⟩) 64 cx, .bool xd] 82)) (.cells #[.int .i64 (xn : Int)] 3)
        rw [show (wr.alloc (.cells #[.int .i64 (xn : Int), .slice (some ⟨gx, 0, none⟩) 64 cx, .bool xd] 82)).heap.size = wr.heap.size + 1 by simp] at this
        exact this
      clear hc e0 e1 e2 hxv hlt' hbk
      cases xd with
      | false =>
        have HO1 : Hid (wr.ownsRow w.heap.size 3 1 u3 (dirtyE (E.take (k + 1))).length (ints (dirtyE (E.take (k + 1))))) := by
          show World.ownsRow _ _ _ _ _ _ _
          rw [HT.out, if_neg (by simp), List.append_nil]
          exact HO.out
        have HO2 := Lib.hid (HO1.out.alloc (.cells #[.int .i64 (xn : Int), .slice (some ⟨gx, 0, none⟩) 64 cx, .bool false] 82))
        go_wp2
        go_roundw
        case rel => exact ⟨k + 1, by omega, by go_num, HO2, HBK.out⟩
        case measure => simp [intOf]; omega
      | true =>
        go_wp2_with (at_builtin; refine wpList_append_own _ rfl _ _ 38 rfl w.heap.size 3 i0 (.int .i64 0) 1 8 intsT HI.out HZ0.out HZ1.out HZ2.out rfl (by decide) _ _ _ rfl ((HOA.out _).alloc _) ⟨_, 0, none⟩ 1 1 [.int .i64 (xn : Int)] rfl rfl (World.news_of_block (cs := #[.int .i64 (xn : Int)]) (t := 3) (fr := (0, 0)) HNB.out) (by simp [Value.oneCell']) (by unfold maxLen; omega) (by omega) (by simp; omega) ?_; intro v' w1 hown hgrow _)
        have HO1 : Hid (w1.ownsRow w.heap.size 3 1 v' (dirtyE (E.take (k + 1))).length (ints (dirtyE (E.take (k + 1))))) := by
          show World.ownsRow _ _ _ _ _ _ _
          rw [HT.out, if_pos rfl, List.length_append]
          have e : ints (dirtyE (E.take k) ++ [(xn : Int)]) = ints (dirtyE (E.take k)) ++ [.int .i64 (xn : Int)] := by simp [ints]
          rw [e]
          exact hown
        have HB1 : Below w.heap.size w w1 := Below.grown (HBK.out.alloc HBK.out.size _) hgrow (by simp; omega) HLT.out
        clear hown hgrow c0 c1 c2
        go_wp2
        go_roundw
        case rel => exact ⟨k + 1, by omega, by go_num, HO1, HB1⟩
        case measure => simp [intOf]; omega
    · have hkn : k = n := by omega
      subst hkn
      have HF : Hid (wr.ownsRow w.heap.size 3 1 u3 (dirtyL (E.map ab)).length (ints (dirtyL (E.map ab)))) := by
        have := HO.out
        rw [HL0.out] at this
        exact this
      have HS := Lib.hid (sort_own u3 (dirtyL (E.map ab)) w.heap.size wr HF.out (by rw [← HL0.out]; have := dirtyE_le E k; omega))
      have hlt2 := HF.out.lt
      have HLT := Lib.hid (fun q hq => (hlt2 q hq).1)
      clear hlt2
      go_wp2_with fail
      refine HS.out.mono ?_
      rintro e w2 ⟨rfl, ho2, hg2⟩
      have HO2 := Lib.hid ho2
      have HB2 : Below w.heap.size w w2 := Below.grown HB hg2 HB.size HLT.out
      clear ho2 hg2
      go_wp2
      go_ret
      refine ⟨_, rfl, ?_, HB2⟩
      rw [show (srtI (dirtyL (E.map ab))).length = (dirtyL (E.map ab)).length from (srtI_perm _).length_eq]
      exact HO2.out

end Go.Proofs.Ythkcnihmfeilgaa
