/- New and Held of a cache. -/
import Derived.Test.YthkcnihmfeilgaaBufGet
namespace Go.Proofs.Ythkcnihmfeilgaa
open Go.RowKit

theorem intsT : Try.prog.underlying 38 = some (.slice 3) := by kernel_rfl
theorem intInfo : (Try.prog.info? 3).map (fun i => (i.zero, i.size, i.bytes)) = some (some (.int .i64 0), 1, 8) := by kernel_rfl

set_option maxRecDepth 100000 in
set_option maxHeartbeats 1000000 in
theorem bufnew_any {w : World} {d : Value} {st : Dk} {k : Nat} {F : Nat → Prop} (hd : DiskAt w d st k F) (slots : Nat) (x : Int) (hx : x = (slots : Int)) (h0 : 1 ≤ slots) (h1 : slots ≤ 32) :
    Calls Try.prog 46 #[d, .int .i64 x] w fun e w' => e = .returned (.tuple #[.pointer (some ⟨w.heap.size, 0, none⟩), .int .i64 0]) ∧ Below w.heap.size w w' ∧ CacheAt w' (.pointer (some ⟨w.heap.size, 0, none⟩)) d slots [] st k (fun i => i = w.heap.size) F := by
  subst hx
  obtain ⟨a, rfl⟩ := hd.ptr
  have HD := Lib.hid hd
  clear hd
  go_enter Try.func46, Try.ntmps46
  go_wp2
  go_ret2
  have hb : Below w.heap.size w (w.alloc (.cells #[.pointer (some a), .int .i64 (slots : Int), .slice none 0 0] 85)) := (Below.refl _ _).alloc (Nat.le_refl _) _
  refine ⟨rfl, hb, [], rfl, w.heap.size, .slice none 0 0, rfl, ?_, HD.out.below hb, fun i hi hf => ?_⟩
  · exact { hc := heap_alloc_new _ _, own := World.ownsRow_nil _ _ _ _, aown := fun b hb => by simp [Value.ownBlock] at hb, agc := rfl, dat := fun x hx => by simp at hx, ns := fun x hx => by simp at hx, fin := fun i hi => by rw [hi]; simp, s0 := h0, s1 := h1, len := Nat.zero_le _ }
  · have := HD.out.fin i hf; omega

def HeldRes (l : List Int) (w : World) (e : Ending) (w' : World) : Prop := ∃ v, e = .returned v ∧ w'.ownsRow w.heap.size 3 1 v l.length (ints l) ∧ Below w.heap.size w w'

set_option maxRecDepth 100000 in
set_option maxHeartbeats 2000000 in
theorem held_any {w : World} {c d : Value} {slots : Nat} {M : List Ab} {st : Dk} {k : Nat} {A F : Nat → Prop} (h : CacheAt w c d slots M st k A F) :
    Calls Try.prog 18 #[c] w (HeldRes (M.map fun x => (x.1 : Int)) w) := by
  obtain ⟨E, rfl, gc, lv, rfl, h1, h2, h3⟩ := h
  rw [List.map_map]
  have c2 := h1.c2
  obtain ⟨q, cp, hlv, hq⟩ := owns_slice h1.own
  have HL := Lib.hid (fun b hb => (h1.own.lt b hb).2)
  obtain ⟨n, HN⟩ : ∃ n, Hid (n = E.length) := ⟨_, rfl⟩
  have hn32 : n ≤ 32 := by rw [HN.out]; exact Nat.le_trans h1.len h1.s1
  rw [← HN.out] at hlv hq
  subst hlv
  have HQ := Lib.hid hq
  have HV : Hid (∀ x ∈ E, ∃ gx cx, x.v = .slice (some ⟨gx, 0, none⟩) 64 cx) := fun x hx => by
    obtain ⟨g', c', _, h1, _⟩ := h1.dat x hx
    exact ⟨g', c', h1⟩
  have hltc : gc < w.heap.size := h1.fin _ h1.agc
  clear h1 h2 h3 hq
  obtain ⟨i0, hi0, hz0, hz1, hz2⟩ := info_parts intInfo
  have HI := Lib.hid hi0
  have HZ0 := Lib.hid hz0
  have HZ1 := Lib.hid hz1
  have HZ2 := Lib.hid hz2
  clear hi0 hz0 hz1 hz2
  obtain ⟨L, HLL⟩ : ∃ L, Hid (L = E.map ((fun x : Ab => (x.1 : Int)) ∘ ab)) := ⟨_, rfl⟩
  have HLN : Hid (L.length = n) := by show _ = _; rw [HLL.out, HN.out, List.length_map]
  rw [← HLL.out]
  go_enter Try.func18, Try.ntmps18
  go_wp2
  go_loopw [3, 11] (fun o i wr => ∃ k : Nat, k ≤ n ∧ i = .int .i64 k ∧ Hid (wr.ownsRow w.heap.size 3 1 o k (ints (L.take k))) ∧ Below w.heap.size w wr) (fun _ i _ => n - (intOf i).toNat)
  case atStart => exact ⟨0, Nat.zero_le _, rfl, by rw [List.take_zero]; exact World.ownsRow_nil _ _ _ _, Below.refl _ _⟩
  case round =>
    obtain ⟨k, hk, rfl, HO, HB⟩ := hrel
    by_cases hlt : k < n
    · have hkl : k < E.length := by rw [← HN.out]; exact hlt
      obtain ⟨g, rfl, _, hc⟩ := HQ.out (by omega)
      have hg : g < w.heap.size := HL.out g rfl
      obtain ⟨e0, e1, e2⟩ := scells_get E k hkl
      obtain ⟨gx, cx, hxv⟩ := HV.out _ (List.getElem_mem hkl)
      rw [hxv] at e1
      have c0 := (HB.cell (p := ⟨g, k * 3, none⟩) hg).trans (hc _ _ e0)
      have c1 := (HB.cell (p := ⟨g, k * 3 + 1, none⟩) hg).trans (hc _ _ e1)
      have c2 := (HB.cell (p := ⟨g, k * 3 + 2, none⟩) hg).trans (hc _ _ e2)
      obtain ⟨xn, Hxn⟩ : ∃ q, Hid (E[k].n = q) := ⟨E[k].n, rfl⟩
      obtain ⟨xd, Hxd⟩ : ∃ q, Hid (E[k].d = q) := ⟨E[k].d, rfl⟩
      rw [Hxn.out] at c0
      rw [Hxd.out] at c2
      have HT : Hid (L.take (k + 1) = L.take k ++ [(xn : Int)]) := by
        show _ = _
        rw [← List.take_append_getElem (by rw [HLN.out]; exact hlt)]
        congr 2
        simp only [HLL.out, List.getElem_map]
        show ((ab E[k]).1 : Int) = _
        rw [← Hxn.out]; rfl
      have hsz := HB.size
      have HOA := Lib.hid (fun o => HO.out.alloc o)
      have hlt' := HO.out.lt
      have HLT := Lib.hid (fun q hq => (hlt' q hq).1)
      have hbk : Below w.heap.size w (wr.alloc (.cells #[.int .i64 (xn : Int), .slice (some ⟨gx, 0, none⟩) 64 cx, .bool xd] 82)) := HB.alloc hsz _
      have HBK := Lib.hid hbk
      have HNB : Hid (((wr.alloc (.cells #[.int .i64 (xn : Int), .slice (some ⟨gx, 0, none⟩) 64 cx, .bool xd] 82)).alloc (.cells #[.int .i64 (xn : Int)] 3)).heap[wr.heap.size + 1]? = some (.cells #[.int .i64 (xn : Int)] 3 (0, 0))) := by
        have := heap_alloc_new (wr.alloc (.cells #[.int .i64 (xn : Int), .slice (some ⟨gx, 0, none⟩) 64 cx, .bool xd] 82)) (.cells #[.int .i64 (xn : Int)] 3)
        rw [show (wr.alloc (.cells #[.int .i64 (xn : Int), .slice (some ⟨gx, 0, none⟩) 64 cx, .bool xd] 82)).heap.size = wr.heap.size + 1 by simp] at this
        exact this
      clear hc e0 e1 e2 hxv hlt' hbk
      go_wp2_with (at_builtin; refine wpList_append_own _ rfl _ _ 38 rfl w.heap.size 3 i0 (.int .i64 0) 1 8 intsT HI.out HZ0.out HZ1.out HZ2.out rfl (by decide) _ _ _ rfl ((HOA.out _).alloc _) ⟨_, 0, none⟩ 1 1 [.int .i64 (xn : Int)] rfl rfl (World.news_of_block (cs := #[.int .i64 (xn : Int)]) (t := 3) (fr := (0, 0)) HNB.out) (by simp [Value.oneCell']) (by unfold maxLen; omega) (by omega) (by simp; omega) ?_; intro v' w1 hown hgrow _)
      have HO1 : Hid (w1.ownsRow w.heap.size 3 1 v' (k + 1) (ints (L.take (k + 1)))) := by
        show World.ownsRow _ _ _ _ _ _ _
        rw [HT.out]
        have e : ints (L.take k ++ [(xn : Int)]) = ints (L.take k) ++ [.int .i64 (xn : Int)] := by simp [ints]
        rw [e]
        exact hown
      have HB1 : Below w.heap.size w w1 := Below.grown (HBK.out.alloc HBK.out.size _) hgrow (by simp; omega) HLT.out
      clear hown hgrow c0 c1 c2
      go_wp2
      go_roundw
      case rel => exact ⟨k + 1, by omega, by go_num, HO1, HB1⟩
      case measure => simp [intOf]; omega
    · have hkn : k = n := by omega
      subst hkn
      have HF : Hid (wr.ownsRow w.heap.size 3 1 u3 L.length (ints L)) := by
        have := HO.out
        rw [List.take_of_length_le (by rw [HLN.out]; exact Nat.le_refl _), ← HLN.out] at this
        exact this
      go_wp2
      go_ret
      exact ⟨_, rfl, HF.out, HB⟩

end Go.Proofs.Ythkcnihmfeilgaa
