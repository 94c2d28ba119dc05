/- Sync of a cache, walked. -/
import Derived.Test.YthkcnihmfeilgaaBufSyncP
namespace Go.Proofs.Ythkcnihmfeilgaa
open Go.RowKit

theorem clean_set {E : List Sl} {i n : Nat} (hi : i < E.length) (h : E[i].n = n) (hnd : ((E.map ab).map fun x => x.1).Nodup) : (E.set i { E[i] with d := false }).map ab = cleanA (E.map ab) n := by
  unfold cleanA
  refine List.ext_getElem (by simp) fun j h1 h2 => ?_
  have hj : j < E.length := by simpa using h1
  rw [List.getElem_map, List.getElem_map, List.getElem_map, List.getElem_set]
  by_cases e : i = j
  · subst e
    rw [if_pos rfl, if_pos (by exact h)]
    rfl
  · rw [if_neg e, if_neg]
    intro e2
    rw [List.map_map] at hnd
    have key := List.pairwise_iff_getElem.1 hnd
    have hv : ∀ q (hq : q < E.length), ((fun x : Ab => x.1) ∘ ab) E[q] = E[q].n := fun _ _ => rfl
    rcases Nat.lt_or_gt_of_ne e with h3 | h3
    · have := key i j (by simpa using hi) (by simpa using hj) h3
      rw [List.getElem_map, List.getElem_map, hv i hi, hv j hj] at this
      exact this (by rw [h]; exact e2.symm)
    · have := key j i (by simpa using hj) (by simpa using hi) h3
      rw [List.getElem_map, List.getElem_map, hv i hi, hv j hj] at this
      exact this (by rw [h]; exact e2)
theorem scells_clean (E : List Sl) (i : Nat) (hi : i < E.length) : (scells E).set (i * 3 + 2) (.bool false) = scells (E.set i { E[i] with d := false }) := by
  have e : scells E = scells (E.take i) ++ (.int .i64 (E[i].n : Int) :: E[i].v :: .bool E[i].d :: scells (E.drop (i + 1))) := by
    conv => lhs; rw [← List.take_append_drop i E, List.drop_eq_getElem_cons hi, scells_append, scells_cons]
    rfl
  have hl : (scells (E.take i)).length = i * 3 := by rw [scells_len, List.length_take]; omega
  rw [List.set_eq_take_append_cons_drop (l := E), if_pos hi, scells_append, scells_cons, e, List.set_append_right _ _ (by omega), hl, show i * 3 + 2 - i * 3 = 2 by omega]
  rfl
theorem owns_set {w : World} {base : Nat} {e : TypeId} {size n g cap j : Nat} {xs : List Value} (h : w.ownsRow base e size (.slice (some ⟨g, 0, none⟩) n cap) n xs) (_hj : j < xs.length) (u : Value) : (w.setCell ⟨g, j, none⟩ u).ownsRow base e size (.slice (some ⟨g, 0, none⟩) n cap) n (xs.set j u) := by
  obtain ⟨h1, ⟨hv, _⟩ | ⟨g', cap', cur, hv, h2, h3, h4, h5, h6, h7⟩⟩ := h
  · cases hv
  · cases hv
    refine ⟨by rw [List.length_set]; exact h1, Or.inr ⟨g, cap, _, rfl, h2, heap_setCell_at h3 u, h4, h5, by simpa using h6, ?_⟩⟩
    rw [← h7]
    simp [List.take_set]
theorem CLies.clean {w : World} {gc : Nat} {d : Value} {slots : Nat} {E : List Sl} {k : Nat} {A : Nat → Prop} {g n cap i : Nat} (h : CLies w gc d (.slice (some ⟨g, 0, none⟩) n cap) slots E k A) (hn : n = E.length) (hi : i < E.length) :
    CLies (w.setCell ⟨g, i * 3 + 2, none⟩ (.bool false)) gc d (.slice (some ⟨g, 0, none⟩) n cap) slots (E.set i { E[i] with d := false }) k A ∧ Keeps A w (w.setCell ⟨g, i * 3 + 2, none⟩ (.bool false)) := by
  subst hn
  have hne : gc ≠ g := fun e => h.ne (by rw [e]; rfl)
  have other : ∀ b, b ≠ g → (w.setCell ⟨g, i * 3 + 2, none⟩ (.bool false)).heap[b]? = w.heap[b]? := fun b hb => Below.heap_setCell w _ _ b hb
  have hA : A g := h.aown g rfl
  have hgt : ∀ b c, w.heap[b]? = some (.cells c 5 (0, 0)) → b ≠ g := by
    intro b c hb
    obtain ⟨_, ⟨hv, _⟩ | ⟨g', cap', cur, hv, h2, h3, _⟩⟩ := h.own
    · cases hv
    · cases hv
      exact ne_of_type hb h3 (by decide)
  have hmem : ∀ x ∈ E.set i { E[i] with d := false }, ∃ y ∈ E, x.n = y.n ∧ x.v = y.v ∧ x.D = y.D := by
    intro x hx
    rcases List.mem_or_eq_of_mem_set hx with hx | rfl
    · exact ⟨x, hx, rfl, rfl, rfl⟩
    · exact ⟨E[i], List.getElem_mem hi, rfl, rfl, rfl⟩
  refine ⟨{ h with
    hc := (other gc hne).trans h.hc
    own := ?_
    dat := ?_
    ns := ?_
    fin := fun b hb => by simpa [World.setCell] using h.fin b hb
    len := by rw [List.length_set]; exact h.len }, Keeps.setCell hA _⟩
  · have := owns_set h.own (j := i * 3 + 2) (by rw [scells_len]; omega) (.bool false)
    rw [scells_clean E i hi] at this
    rw [List.length_set]
    exact this
  · intro x hx
    obtain ⟨y, hy, e1, e2, e3⟩ := hmem x hx
    rw [e2, e3]
    exact (h.dat y hy).keep (fun b c _ hc => other b (hgt b c hc)) fun _ h => h
  · intro x hx
    obtain ⟨y, hy, e1, e2, e3⟩ := hmem x hx
    rw [e1]; exact h.ns y hy

set_option maxRecDepth 100000 in
set_option maxHeartbeats 4000000 in
theorem sync_any {w : World} {c d : Value} {slots : Nat} {M : List Ab} {st : Dk} {k : Nat} {A F : Nat → Prop} (h : CacheAt w c d slots M st k A F) (hnd : (M.map fun x => x.1).Nodup) (hW : st.W.length < 900000) :
    Calls Try.prog 42 #[c] w fun e w' => e = .returned (.tuple #[]) ∧ CacheDid c d slots (syncK (M, st) (dirtyN M)).1 (flushE (syncK (M, st) (dirtyN M)).2) k A F w w' := by
  have HDI := Lib.hid (dirty_any h)
  have hM32 : M.length ≤ 32 := by
    obtain ⟨E, rfl, gc, lv, _, h1, _⟩ := h
    rw [List.length_map]
    exact Nat.le_trans h1.len h1.s1
  obtain ⟨gc, hc⟩ : ∃ gc, c = .pointer (some ⟨gc, 0, none⟩) := by obtain ⟨E, _, gc, lv, hc, _⟩ := h; exact ⟨gc, hc⟩
  subst hc
  have H := Lib.hid h
  have HFIN := Lib.hid h.fin
  obtain ⟨ds, HDS⟩ : ∃ ds, Hid (dirtyN M = ds) := ⟨_, rfl⟩
  obtain ⟨L, HL⟩ : ∃ L, Hid (L = ds.length) := ⟨_, rfl⟩
  have hL : L ≤ 32 := by rw [HL.out, ← HDS.out]; exact Nat.le_trans (dirtyN_len M) hM32
  have HSUB : Hid (∀ n ∈ ds, ∃ x ∈ M, x.1 = n) := fun n hn => by
    rw [← HDS.out] at hn
    obtain ⟨x, hx, hxn, _⟩ := dirtyN_mem.1 hn
    exact ⟨x, hx, hxn⟩
  have HND := Lib.hid hnd
  rw [HDS.out]
  clear h hnd
  go_enter Try.func42, Try.ntmps42
  go_wp2_with fail
  refine HDI.out.mono ?_
  rintro e w1 ⟨v1, rfl, ho1, hb1⟩
  rw [← dirtyN_eq, HDS.out, List.length_map, ← HL.out] at ho1
  obtain ⟨q1, cp1, hv1, hq1⟩ := owns_slice ho1
  subst hv1
  have HQ : Hid (0 < L → ∃ g, q1 = some ⟨g, 0, none⟩ ∧ g < w1.heap.size ∧ w.heap.size ≤ g ∧ ∀ (j : Nat) (x : Value), (ints (ds.map fun n : Nat => (n : Int)))[j]? = some x → w1.cell? ⟨g, j, none⟩ = some x) := fun h0 => by
    obtain ⟨g, rfl, hg, hc⟩ := hq1 h0
    exact ⟨g, rfl, (ho1.lt g rfl).2, hg, hc⟩
  have HC1 : Hid (CacheDid (.pointer (some ⟨gc, 0, none⟩)) d slots (syncK (M, st) (ds.take 0)).1 (syncK (M, st) (ds.take 0)).2 k A F w1 w1) := by
    obtain ⟨E, hE, hB⟩ := H.out
    exact ⟨E, hE, A, F, hB.below hb1, fun _ h => Or.inl h, fun _ h => Or.inl h, Keeps.refl _ _⟩
  have hz1 := hb1.size
  have HB1 := Lib.hid hb1
  clear ho1 hq1 hb1
  go_wp2
  go_loopw [8] (fun i wr => ∃ j : Nat, j ≤ L ∧ i = .int .i64 j ∧ Hid (CacheDid (.pointer (some ⟨gc, 0, none⟩)) d slots (syncK (M, st) (ds.take j)).1 (syncK (M, st) (ds.take j)).2 k A F w1 wr)) (fun i _ => L - (intOf i).toNat)
  case atStart => exact ⟨0, Nat.zero_le _, rfl, HC1⟩
  case round =>
    obtain ⟨j, hj, rfl, HC⟩ := hrel
    obtain ⟨E, hE, A', F', hB, hA', hF', hk⟩ := HC.out
    obtain ⟨gc', lv, hcc, h1, h2, h3⟩ := hB
    have hgg : gc' = gc := by cases hcc; rfl
    subst hgg
    have HE := Lib.hid hE
    have H1 := Lib.hid h1
    have H2 := Lib.hid h2
    have H3 := Lib.hid h3
    have HA' := Lib.hid hA'
    have HF' := Lib.hid hF'
    have HK := Lib.hid hk
    clear hcc hE h1 h2 h3 hA' hF' hk
    have hWj : (syncK (M, st) (ds.take j)).2.W.length < 1000000 := by
      have h1 := syncK_W (M, st) (ds.take j)
      have h2 := List.length_take_le j ds
      have h3 : (M, st).2.W.length < 900000 := hW
      omega
    have HWJ := Lib.hid hWj
    clear hWj
    by_cases hlt : j < L
    · obtain ⟨g, rfl, hg1, hg2, hcc⟩ := HQ.out (by omega)
      have hjl : j < ds.length := by rw [← HL.out]; exact hlt
      obtain ⟨n, Hn⟩ : ∃ n, Hid (ds[j] = n) := ⟨ds[j], rfl⟩
      have c0 : w1.cell? ⟨g, j, none⟩ = some (.int .i64 (n : Int)) := hcc j _ (by
        rw [← Hn.out]
        simp [ints, List.getElem?_eq_getElem hjl])
      have hgn : ¬ (A g ∨ F g) := by
        rintro (h | h)
        · have := HFIN.out.1 g h; omega
        · have := HFIN.out.2 g h; omega
      have c1 := (HK.out.cell (i := j) hg1 hgn).trans c0
      clear c0 hcc hgn
      have HT : Hid (syncK (M, st) (ds.take (j + 1)) = syncS (syncK (M, st) (ds.take j)) n) := by
        show _ = _
        rw [← List.take_append_getElem hjl, syncK_snoc, Hn.out]
      have hkey : ((E.map ab).map fun x => x.1) = M.map fun x => x.1 := by rw [HE.out]; exact keys_sync (M, st) _
      obtain ⟨i, hil, HIO, HIN, HFI⟩ : ∃ i, ∃ hi : i < E.length, Hid (idxI E n = (i : Int)) ∧ Hid (E[i].n = n) ∧ Hid (∀ j (hj : j < E.length), j < i → E[j].n ≠ n) := by
        rcases idxO_spec E n with ⟨_, hno⟩ | ⟨i, hil, hi, hin, hfirst⟩
        · exfalso
          obtain ⟨x, hx, hxn⟩ := HSUB.out n (by rw [← Hn.out]; exact List.getElem_mem hjl)
          have hm : n ∈ ((E.map ab).map fun x => x.1) := by rw [hkey]; exact List.mem_map.2 ⟨x, hx, hxn⟩
          rw [List.map_map] at hm
          obtain ⟨y, hy, hyn⟩ := List.mem_map.1 hm
          exact hno y hy hyn
        · exact ⟨i, hil, by show _ = _; unfold idxI; rw [hi], hin, hfirst⟩
      have HKEY := Lib.hid hkey
      clear hkey
      have HV : Hid (view (syncK (M, st) (ds.take j)).1 (syncK (M, st) (ds.take j)).2 n = E[i].D) := by
        show _ = _
        unfold view
        rw [← HE.out, see_some hil HIN.out HFI.out]
      go_wp2_with fail
      refine (find_any H1.out n).mono ?_
      rintro e w2 ⟨rfl, hb2⟩
      rw [HIO.out]
      have HC2 := Lib.hid (H1.out.below hb2)
      have HD2 := Lib.hid (H2.out.below hb2)
      have HB2 := Lib.hid hb2
      obtain ⟨q, cp, hlv, hq⟩ := owns_slice HC2.out.own
      obtain ⟨g3, rfl, _, hcells⟩ := hq (by omega)
      obtain ⟨N, HN⟩ : ∃ N, Hid (E.length = N) := ⟨_, rfl⟩
      rw [HN.out] at hlv
      have hiN : i < N := by rw [← HN.out]; exact hil
      subst hlv
      have k0 := HC2.out.c0
      have k2 := HC2.out.c2
      obtain ⟨e0, e1, e2⟩ := scells_get E i hil
      have l1 := hcells _ _ e1
      obtain ⟨gx, cx, Hxv⟩ : ∃ gx cx, Hid (E[i].v = .slice (some ⟨gx, 0, none⟩) 64 cx) := by
        obtain ⟨g', c', _, h1, _⟩ := HC2.out.dat _ (List.getElem_mem hil)
        exact ⟨g', c', h1⟩
      rw [Hxv.out] at l1
      have hN32 : N ≤ 32 := by rw [← HN.out]; exact Nat.le_trans HC2.out.len HC2.out.s1
      clear hq hcells e0 e1 e2 hb2
      go_wp2_with fail
      go_still_tail 13, (by kernel_rfl)
      go_wp2_with fail
      have HDAT : Hid (DatAt w2 A' (.slice (some ⟨gx, 0, none⟩) 64 cx) E[i].D) := by
        have := HC2.out.dat _ (List.getElem_mem hil)
        rw [Hxv.out] at this
        exact this
      have hnk : n < k := by rw [← HIN.out]; exact HC2.out.ns _ (List.getElem_mem hil)
      refine (write_at (HD2.out.below (Below.refl _ _).drew) n hnk _ E[i].D (by obtain ⟨_, _, _, _, h, _⟩ := HDAT.out; exact h) (fun w' hk => (HDAT.out.keep (A' := A') (fun i c hi hc => hk.block i (heap_lt hc) (H3.out i hi)) fun _ h => h).bytes) HWJ.out).mono ?_
      rintro e w3 ⟨rfl, F3, f1, f2, f3⟩
      have f3' : Keeps F' w2 w3 := (Keeps.refl F' w2).drew.step f3
      have HC3 := Lib.hid (HC2.out.keeps f3' H3.out)
      have k3 := HC3.out.c2
      have z3 : w3.frozen? ⟨g3, i * 3 + 2, none⟩ = false := by
        obtain ⟨_, ⟨hv, _⟩ | ⟨g', cap', cur, hv, h2, h3, _⟩⟩ := HC3.out.own
        · cases hv
        · cases hv
          simp [World.frozen?, h3]
      have hl3 : ∃ v, w3.cell? ⟨g3, i * 3 + 2, none⟩ = some v := by
        obtain ⟨q, cp, hlv, hq⟩ := owns_slice HC3.out.own
        obtain ⟨g4, hq4, _, hcells⟩ := hq (by omega)
        cases hlv
        cases hq4
        exact ⟨_, hcells _ _ (scells_get E i hil).2.2⟩
      obtain ⟨v3, hv3⟩ := hl3
      have HCC := Lib.hid (HC3.out.clean HN.out.symm hil)
      have HF1 := Lib.hid f1
      have HF2 := Lib.hid f2
      have HF3 := Lib.hid f3'
      clear k0 k2 l1 f1 f2 f3 f3'
      go_wp2
      have HFIN2 : Hid (CacheDid (.pointer (some ⟨gc', 0, none⟩)) d slots (syncK (M, st) (ds.take (j + 1))).1 (syncK (M, st) (ds.take (j + 1))).2 k A F w1 (w3.setCell ⟨g3, i * 3 + 2, none⟩ (.bool false))) := by
        show CacheDid _ _ _ _ _ _ _ _ _ _
        rw [HT.out]
        have hnd2 : ((E.map ab).map fun x => x.1).Nodup := by rw [HKEY.out]; exact HND.out
        have hd : (syncS (syncK (M, st) (ds.take j)) n).2 = writeE (syncK (M, st) (ds.take j)).2 n E[i].D := by
          show writeE _ _ _ = _
          rw [HV.out]
        have hAF : ∀ b, A' b → ¬ F3 b := fun b hb hf => by
          rcases HF2.out b hf with h | h
          · exact H3.out b hb h
          · exact absurd (HC2.out.fin b hb) (Nat.not_lt.2 h)
        refine ⟨E.set i { E[i] with d := false }, ?_, A', F3, ⟨gc', _, rfl, HCC.out.1, ?_, hAF⟩, HA'.out, ?_, ?_⟩
        · rw [clean_set hil HIN.out hnd2, HE.out]
          rfl
        · rw [hd]
          exact HF1.out.keep HCC.out.2 fun b hf ha => hAF b ha hf
        · intro b hb
          rcases HF2.out b hb with h | h
          · exact HF'.out b h
          · exact Or.inr (Nat.le_trans (Nat.le_trans HK.out.size HB2.out.size) h)
        · have hk2 : Keeps (fun i => A i ∨ F i) w1 w2 := HK.out.trans (Keeps.of_below HB2.out (F := fun _ => False)) fun _ h => h.elim
          refine (hk2.trans HF3.out fun b hb => ?_).trans HCC.out.2 fun b hb => ?_
          · rcases HF'.out b hb with h | h
            · exact Or.inl (Or.inr h)
            · exact Or.inr h
          · rcases HA'.out b hb with h | h
            · exact Or.inl (Or.inl h)
            · exact Or.inr h
      go_roundw
      case rel => exact ⟨j + 1, by omega, by go_num, HFIN2⟩
      case measure => simp [intOf]; omega
    · have hjL : j = L := by omega
      have HT : Hid (ds.take j = ds) := List.take_of_length_le (by rw [hjL, HL.out]; exact Nat.le_refl _)
      have k0 := H1.out.c0
      have hdp : ∃ a, d = .pointer (some a) := H2.out.ptr
      obtain ⟨pa, rfl⟩ := hdp
      clear hjL
      rw [HT.out] at H2 HE
      go_wp2_with fail
      refine (flush_at H2.out).mono ?_
      rintro e w3 ⟨rfl, F3, f1, f2, f3⟩
      have HCF : Hid (CacheDid (.pointer (some ⟨gc', 0, none⟩)) (.pointer (some pa)) slots (syncK (M, st) ds).1 (flushE (syncK (M, st) ds).2) k A F w w3) := by
        have hzr := HK.out.size
        refine ⟨E, HE.out, A', F3, ⟨gc', lv, rfl, H1.out.keeps f3 H3.out, f1, ?_⟩, ?_, ?_, ?_⟩
        · intro b hb hf
          rcases f2 b hf with h | h
          · exact H3.out b hb h
          · exact absurd (H1.out.fin b hb) (Nat.not_lt.2 h)
        · intro b hb
          exact (HA'.out b hb).imp id fun h => Nat.le_trans hz1 h
        · intro b hb
          rcases f2 b hb with h | h
          · exact (HF'.out b h).imp id fun h => Nat.le_trans hz1 h
          · exact Or.inr (by omega)
        · refine ((Keeps.of_below HB1.out).trans HK.out fun b hb => Or.inl hb).trans f3 fun b hb => ?_
          rcases HF'.out b hb with h | h
          · exact Or.inl (Or.inr h)
          · exact Or.inr (Nat.le_trans hz1 h)
      clear f1 f2 f3
      go_wp2
      go_end0
      exact ⟨rfl, HCF.out⟩

end Go.Proofs.Ythkcnihmfeilgaa
