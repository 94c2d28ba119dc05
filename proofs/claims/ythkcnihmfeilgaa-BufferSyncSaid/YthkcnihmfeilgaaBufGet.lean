/- Get of a cache. -/
import Derived.Test.YthkcnihmfeilgaaBufOps
namespace Go.Proofs.Ythkcnihmfeilgaa
open Go.RowKit

/-- What a sector has, as the cache tells it, and whether it must be written yet. -/
def seeA (M : List Ab) (st : Dk) (n : Nat) : List Int × Bool := match M.find? fun x => x.1 == n with | some x => x.2 | none => (sec st.N n, false)
theorem see_some {E : List Sl} {st : Dk} {n i : Nat} (hi : i < E.length) (h1 : E[i].n = n) (h2 : ∀ j (hj : j < E.length), j < i → E[j].n ≠ n) : seeA (E.map ab) st n = (E[i].D, E[i].d) := by
  have : (E.map ab).find? (fun x => x.1 == n) = some (ab E[i]) := by
    rw [List.find?_eq_some_iff_getElem]
    refine ⟨by simpa [ab] using h1, i, by simpa using hi, by simp, fun j hj => ?_⟩
    have := h2 j (by omega) hj
    simpa [ab] using this
  unfold seeA
  rw [this]
  rfl
theorem see_none {E : List Sl} {st : Dk} {n : Nat} (h : ∀ x ∈ E, x.n ≠ n) : seeA (E.map ab) st n = (sec st.N n, false) := by
  have : (E.map ab).find? (fun x => x.1 == n) = none := by
    rw [List.find?_eq_none]
    intro x hx
    obtain ⟨y, hy, rfl⟩ := List.mem_map.1 hx
    have := h y hy
    simpa [ab] using this
  unfold seeA
  rw [this]

def GetRes (c d : Value) (slots : Nat) (M : List Ab) (st : Dk) (k n : Nat) (A F : Nat → Prop) (w : World) (e : Ending) (w' : World) : Prop :=
  ∃ v A' F', e = .returned (.tuple #[v, .int .i64 0]) ∧ CacheAt w' c d slots (useA slots M st (n, seeA M st n)).1 (useA slots M st (n, seeA M st n)).2 k A' F' ∧ (∀ i, A' i → A i ∨ w.heap.size ≤ i) ∧ (∀ i, F' i → F i ∨ w.heap.size ≤ i) ∧ Keeps (fun i => A i ∨ F i) w w' ∧
    ∃ g cap cur, v = .slice (some ⟨g, 0, none⟩) 64 cap ∧ (seeA M st n).1.length = 64 ∧ w.heap.size ≤ g ∧ ¬ A' g ∧ ¬ F' g ∧ w'.heap[g]? = some (.cells cur 5 (0, 0)) ∧ cur.toList.take 64 = u8s (seeA M st n).1

theorem get_fin {w w1 w2 w3 : World} {c d : Value} {slots : Nat} {E E' : List Sl} {st st' : Dk} {k n : Nat} {A F A1 F1 : Nat → Prop} {v : Value} (s : Sl) (hs : (s.n, s.D, s.d) = (n, seeA (E.map ab) st n)) (hE : E' = (useE slots E st s).1) (hst : st' = (useE slots E st s).2)
    (h01 : Keeps (fun i => A i ∨ F i) w w1) (hA1 : ∀ i, A1 i → A i ∨ w.heap.size ≤ i) (hF1 : ∀ i, F1 i → F i ∨ w.heap.size ≤ i) (h12 : BufDid c d slots E' st' k A1 F1 w1 w2) (h23 : New64 s.D w2 v w3) (hD : s.D.length = 64) :
    GetRes c d slots (E.map ab) st k n A F w (.returned (.tuple #[v, .int .i64 0])) w3 := by
  obtain ⟨A', F', b1, b2, b3, b4⟩ := BufDid.trans h01 hA1 hF1 h12
  obtain ⟨g, cap, cur, rfl, hg, hh, ht, hb⟩ := h23
  obtain ⟨f1, f2⟩ := b1.fin
  obtain ⟨e1, e2⟩ := useE_ab slots E st s
  have hab : ab s = (n, seeA (E.map ab) st n) := hs
  have hsD : s.D = (seeA (E.map ab) st n).1 := by have := congrArg (fun x : Ab => x.2.1) hs; exact this
  rw [hab] at e1 e2
  refine ⟨_, A', F', rfl, ⟨E', by rw [hE]; exact e1, ?_⟩, b2, b3, b4.trans (Keeps.of_below hb (F := fun _ => False)) fun _ h => h.elim, g, cap, cur, rfl, by rw [← hsD]; exact hD, Nat.le_trans b4.size hg, fun h => by have := f1 g h; omega, fun h => by have := f2 g h; omega, hh, by rw [← hsD]; exact ht⟩
  rw [← e2, ← hst]
  exact b1.below hb

set_option maxRecDepth 100000 in
set_option maxHeartbeats 4000000 in
theorem get_any {w : World} {c d : Value} {slots : Nat} {M : List Ab} {st : Dk} {k : Nat} {A F : Nat → Prop} (h : CacheAt w c d slots M st k A F) (n : Nat) (hn : n < k) (hW : st.W.length < 1000000) :
    Calls Try.prog 17 #[c, .int .i64 (n : Int)] w (GetRes c d slots M st k n A F w) := by
  obtain ⟨E, rfl, h⟩ := h
  have H := Lib.hid h
  obtain ⟨gc, lv, rfl, h1, h2, h3⟩ := h
  have H1 := Lib.hid h1
  have H2 := Lib.hid h2
  have H3 := Lib.hid h3
  have HFIND := Lib.hid (find_any h1 n)
  have HFIN := Lib.hid H.out.fin
  clear h1 h2 h3
  rcases idxO_spec E n with ⟨hi, hno⟩ | ⟨i, hil, hi, hin, hfirst⟩
  · have HI : Hid (idxI E n = -1) := by show _ = _; unfold idxI; rw [hi]
    have HSEE := Lib.hid (see_none (st := st) hno)
    rw [HI.out] at HFIND
    clear hi hno
    go_enter Try.func17, Try.ntmps17
    go_wp2_with fail
    refine HFIND.out.mono ?_
    rintro e w1 ⟨rfl, hb1⟩
    have c0 := (H1.out.below hb1).c0
    have HB1 := Lib.hid hb1
    have HR := Lib.hid (read_at (H2.out.below hb1) n hn)
    clear hb1
    go_wp2_with fail
    refine HR.out.mono ?_
    rintro e w2 ⟨v, rfl, g, cap, cur, rfl, hg, hh, ht, hb2⟩
    have HLEN : Hid ((sec st.N n).length = 64) := sec_len H2.out.lens.2 hn
    rw [HLEN.out] at ht ⊢
    have HB2 : Hid (Below w.heap.size w w2) := Below.step HB1.out hb2
    have hgs : w.heap.size ≤ g := Nat.le_trans HB1.out.size hg.1
    have HG : Hid (BufAt w2 (.pointer (some ⟨gc, 0, none⟩)) d slots E st k (fun i => A i ∨ i = g) F) := (H.out.below HB2.out).more g (heap_lt hh) (fun hf => by have := HFIN.out.2 g hf; omega)
    have HDT : Hid (DatAt w2 (fun i => A i ∨ i = g) (.slice (some ⟨g, 0, none⟩) 64 cap) (sec st.N n)) := ⟨g, cap, cur, rfl, HLEN.out, Or.inr rfl, hh, ht⟩
    clear hh ht hb2 hg c0
    go_wp2_with fail
    refine (use_at HG.out ⟨n, .slice (some ⟨g, 0, none⟩) 64 cap, sec st.N n, false⟩ hn HDT.out hW).mono ?_
    rintro e w3 ⟨rfl, hd3⟩
    have HD3 := Lib.hid hd3
    have HC : Hid (Calls Try.prog 53 #[.slice (some ⟨g, 0, none⟩) 64 cap] w3 fun e w' => ∃ v', e = .returned v' ∧ New64 (sec st.N n) w3 v' w') := by
      obtain ⟨A', F', b1, _⟩ := HD3.out
      have := (b1.head ⟨n, .slice (some ⟨g, 0, none⟩) 64 cap, sec st.N n, false⟩ (by unfold useE; simp)).1
      exact clone64 _ _ _ this.bytes HLEN.out
    clear hd3
    go_wp2_with fail
    refine HC.out.mono ?_
    rintro e w4 ⟨v4, rfl, hnew⟩
    have HN := Lib.hid (get_fin (n := n) (A := A) (F := F) (w := w) (E := E) ⟨n, .slice (some ⟨g, 0, none⟩) 64 cap, sec st.N n, false⟩ (by rw [HSEE.out]) rfl rfl (Keeps.of_below HB2.out) (fun i hi => hi.imp id fun e => by rw [e]; exact hgs) (fun i hi => Or.inl hi) HD3.out hnew HLEN.out)
    clear hnew
    go_wp2
    go_ret2
    exact HN.out
  · have HI : Hid (idxI E n = (i : Int)) := by show _ = _; unfold idxI; rw [hi]
    have HSEE := Lib.hid (see_some (st := st) hil hin hfirst)
    rw [HI.out] at HFIND
    have hl32 : i < 32 := by have := H1.out.len; have := H1.out.s1; omega
    obtain ⟨e0, e1, e2⟩ := scells_get E i hil
    obtain ⟨x, Hx⟩ : ∃ x, Hid (x = E[i]) := ⟨E[i], rfl⟩
    rw [← Hx.out] at e0 e1 e2
    have HXN : Hid (x.n = n) := by rw [Hx.out]; exact hin
    have HXM : Hid (x ∈ E) := by rw [Hx.out]; exact List.getElem_mem hil
    rw [← Hx.out] at HSEE
    have HE := Lib.hid (show (scells E)[i * 3]? = some (.int .i64 (x.n : Int)) ∧ (scells E)[i * 3 + 1]? = some x.v ∧ (scells E)[i * 3 + 2]? = some (.bool x.d) from ⟨e0, e1, e2⟩)
    clear hi hin hfirst e0 e1 e2
    go_enter Try.func17, Try.ntmps17
    go_wp2_with fail
    refine HFIND.out.mono ?_
    rintro e w1 ⟨rfl, hb1⟩
    have g1 := H1.out.below hb1
    have HB1 := Lib.hid hb1
    have c2 := g1.c2
    obtain ⟨q, cp, hlv, hq⟩ := owns_slice g1.own
    obtain ⟨g, rfl, _, hc⟩ := hq (by omega)
    subst hlv
    have l0 := hc _ _ HE.out.1
    have l1 := hc _ _ HE.out.2.1
    have l2 := hc _ _ HE.out.2.2
    have HDX := Lib.hid (g1.dat x HXM.out)
    obtain ⟨gx, cx, hxv0⟩ : ∃ gx cx, x.v = .slice (some ⟨gx, 0, none⟩) 64 cx := by
      obtain ⟨g', c', _, h1, _⟩ := HDX.out
      exact ⟨g', c', h1⟩
    have HXV := Lib.hid hxv0
    rw [HXV.out] at l1
    rw [HXN.out] at l0
    obtain ⟨xd, Hxd⟩ : ∃ q, Hid (x.d = q) := ⟨_, rfl⟩
    rw [Hxd.out] at l2
    obtain ⟨nE, HNE⟩ : ∃ q, Hid (E.length = q) := ⟨_, rfl⟩
    rw [HNE.out] at c2 hil
    have hii : (i : Int) < (nE : Int) := by omega
    clear hb1 g1 hq hc hxv0
    go_wp2_with fail
    have hbx : Below w1.heap.size w1 (w1.alloc (.cells #[.int .i64 (n : Int), .slice (some ⟨gx, 0, none⟩) 64 cx, .bool xd] 82)) := (Below.refl _ _).alloc (Nat.le_refl _) _
    have HBX := Lib.hid hbx
    have HG : Hid (BufAt (w1.alloc (.cells #[.int .i64 (n : Int), .slice (some ⟨gx, 0, none⟩) 64 cx, .bool xd] 82)) (.pointer (some ⟨gc, 0, none⟩)) d slots E st k A F) := (H.out.below HB1.out).below hbx
    have HUSE : Hid (Calls Try.prog 52 #[.pointer (some ⟨gc, 0, none⟩), .agg #[.int .i64 (n : Int), .slice (some ⟨gx, 0, none⟩) 64 cx, .bool xd]] (w1.alloc (.cells #[.int .i64 (n : Int), .slice (some ⟨gx, 0, none⟩) 64 cx, .bool xd] 82)) fun e w' => e = .returned (.tuple #[]) ∧ BufDid (.pointer (some ⟨gc, 0, none⟩)) d slots (useE slots E st x).1 (useE slots E st x).2 k A F (w1.alloc (.cells #[.int .i64 (n : Int), .slice (some ⟨gx, 0, none⟩) 64 cx, .bool xd] 82)) w') := by
      have := use_at HG.out x (by rw [HXN.out]; exact hn) (HDX.out.keep (fun i _ _ hc => hbx.block i (heap_lt hc)) fun _ h => h) hW
      rw [HXN.out, HXV.out, Hxd.out] at this
      exact this
    have hb5 := heap_alloc_new w1 (.cells #[.int .i64 (n : Int), .slice (some ⟨gx, 0, none⟩) 64 cx, .bool xd] 82)
    have HB5 := Lib.hid hb5
    clear c2 l0 l1 l2 hbx hb5
    refine HUSE.out.mono ?_
    rintro e w3 ⟨rfl, hd3⟩
    have HD3 := Lib.hid hd3
    have HC : Hid (Calls Try.prog 53 #[.slice (some ⟨gx, 0, none⟩) 64 cx] w3 fun e w' => ∃ v', e = .returned v' ∧ New64 x.D w3 v' w') := by
      obtain ⟨A', F', b1, _⟩ := HD3.out
      have := (b1.head x (by unfold useE; simp)).1
      have hl : x.D.length = 64 := by obtain ⟨_, _, _, _, h, _⟩ := HDX.out; exact h
      have hby := this.bytes
      rw [HXV.out] at hby
      exact clone64 _ _ _ hby hl
    have h7 : w3.heap[w1.heap.size]? = some (.cells #[.int .i64 (n : Int), .slice (some ⟨gx, 0, none⟩) 64 cx, .bool xd] 82 (0, 0)) := by
      obtain ⟨A', F', _, _, _, hk⟩ := HD3.out
      refine (hk.block _ (heap_lt HB5.out) ?_).trans HB5.out
      have := HB1.out.size
      rintro (ha | hf)
      · have := HFIN.out.1 _ ha; omega
      · have := HFIN.out.2 _ hf; omega
    have b7 := cell_of_row w3 _ 1 _ _ _ h7
    clear hd3 h7
    go_wp2_with fail
    refine HC.out.mono ?_
    rintro e w4 ⟨v4, rfl, hnew⟩
    have HN := Lib.hid (get_fin (n := n) (A := A) (F := F) (w := w) (E := E) x (by rw [HSEE.out, HXN.out]) rfl rfl (Keeps.of_below (Below.step HB1.out HBX.out)) (fun i hi => Or.inl hi) (fun i hi => Or.inl hi) HD3.out hnew (by obtain ⟨_, _, _, _, h, _⟩ := HDX.out; exact h))
    clear hnew
    go_wp2
    go_ret2
    exact HN.out

end Go.Proofs.Ythkcnihmfeilgaa
