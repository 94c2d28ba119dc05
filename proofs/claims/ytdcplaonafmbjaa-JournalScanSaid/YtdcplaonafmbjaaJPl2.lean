/- What a crash leaves of commits, plainly: a commit's way. -/
import Derived.Test.YtdcplaonafmbjaaJPl
namespace Go.Proofs.Ytdcplaonafmbjaa
open Go.RowKit

/-- Between commits: what is read is D; told was the sq-th commit, L (none: 0). -/
structure Rest (st : Dk) (D : List Int) (sq : Int) (L : List Wr) : Prop where
  ok : DkW st
  d : dat st.N = D
  c : (L = [] ∧ sq = 0 ∧ sec st.S 2 = zS ∧ sec st.N 2 = zS ∧ st.W = []) ∨
      (0 < L.length ∧ GoodL L ∧ LB L ∧ 0 < sq ∧ sq < 4294967296 ∧ Told st.S sq L ∧ Told st.N sq L ∧ (∀ x ∈ st.W, x ∈ L) ∧ ∀ m, 10 ≤ m → m < 20 → sec st.N m = (lastD L m).getD (sec st.S m))
theorem Told.congr {N N' : List Int} {sq : Int} {L : List Wr} (h : Told N sq L) (hl : L.length ≤ 4) (he : ∀ m, m < 10 → sec N' m = sec N m) : Told N' sq L :=
  ⟨(he 2 (by omega)).trans h.hd, fun i hi => (he (3 + i) (by omega)).trans (h.mid i hi), (he _ (by omega)).trans h.tl⟩
theorem goodL_nil : GoodL [] := ⟨fun x hx => by simp at hx, by simp, by simp⟩
theorem good_told {st : Dk} {sq : Int} {L : List Wr} (hs : st.S.length = 64 * 20) (h0 : 0 < L.length) (hg : GoodL L) (hb : LB L) (hq : 0 ≤ sq ∧ sq < 4294967296) (ht : Told st.S sq L) (hw : ∀ x ∈ st.W, x ∈ L) : Good (fun X => X = dat (foldN st.S L)) st := by
  intro C hC
  have hlow : ∀ m, m < 10 → sec C m = sec st.S m := fun m hm => by
    rcases hC.mix m (by omega) with h | h
    · exact h
    · have := (hg.n _ (hw _ h)).1
      exact absurd this (by show ¬ 10 ≤ m; omega)
  obtain ⟨e, _⟩ := open_told (ht.congr hg.l hlow) h0 hg hq
  refine ⟨by rw [e]; exact hg, ?_⟩
  unfold recD
  rw [e]
  refine rec_same hC.len hs hg hb fun m h1 h2 hn => ?_
  rcases hC.mix m h2 with h | h
  · exact h
  · exact absurd h (lastD_none_of hw hn _)
theorem Rest.good {st : Dk} {D : List Int} {sq : Int} {L : List Wr} (h : Rest st D sq L) : Good (fun X => X = D) st := by
  rcases h.c with ⟨_, _, hz, hzn, hW⟩ | ⟨h0, hg, hb, hq0, hq1, ht, _, hw, hN⟩
  · intro C hC
    have he : ∀ m, m < 20 → sec C m = sec st.N m := fun m hm => by
      have h1 : sec C m = sec st.S m := by
        rcases hC.mix m hm with h | h
        · exact h
        · rw [hW] at h; exact absurd h List.not_mem_nil
      rcases h.ok.mix m hm with h2 | h2
      · rw [h1, h2]
      · rw [hW] at h2; exact absurd h2 List.not_mem_nil
    have e := (open_nohead ((he 2 (by omega)).trans hzn)).1
    refine ⟨by rw [e]; exact goodL_nil, ?_⟩
    rw [rec_none e, sec_all_eq hC.len h.ok.n he, h.d]
  · refine (good_told h.ok.s h0 hg hb ⟨by omega, hq1⟩ ht hw).mono fun X hX => ?_
    rw [hX, ← h.d]
    have hwr := good_wr hg hb
    refine dat_eq (foldN_len L h.ok.s hwr) h.ok.n fun m h1 h2 => ?_
    rw [foldN_sec h.ok.s hwr m h2, hN m h1 h2]

/-- Nothing is told, nor is being told. -/
structure NH (st : Dk) (D : List Int) : Prop where
  ok : DkW st
  s2 : sec st.S 2 = zS
  n2 : sec st.N 2 = zS
  w : ∀ x ∈ st.W, x.1 ≠ 2 ∧ x.1 < 10
  ds : dat st.S = D
  dn : dat st.N = D
theorem NH.good {st : Dk} {D : List Int} (h : NH st D) : Good (fun X => X = D) st := by
  intro C hC
  have e2 : sec C 2 = zS := by
    rcases hC.mix 2 (by omega) with h1 | h1
    · rw [h1, h.s2]
    · exact absurd rfl (h.w _ h1).1
  have e := (open_nohead e2).1
  refine ⟨by rw [e]; exact goodL_nil, ?_⟩
  rw [rec_none e, ← h.ds]
  refine dat_eq hC.len h.ok.s fun m h1 h2 => ?_
  rcases hC.mix m h2 with h3 | h3
  · exact h3
  · have := (h.w _ h3).2
    exact absurd this (by show ¬ m < 10; omega)
theorem NH.wr {st : Dk} {D : List Int} (h : NH st D) {n : Nat} {E : List Int} (hn : 3 ≤ n ∧ n < 8) (hE : E.length = 64) (hb : ByteL E) : NH (doE st (n, E, false)) D := by
  refine ⟨h.ok.wr (by omega) hE hb, ?_, ?_, ?_, ?_, ?_⟩ <;> rw [doE_wr h.ok]
  · exact h.s2
  · show sec (putS st.N n E) 2 = _
    rw [sec_put_other h.ok.n (by omega) (by omega) hE (by omega)]; exact h.n2
  · intro x hx
    rcases List.mem_append.1 hx with hx | hx
    · exact h.w x hx
    · rw [List.mem_singleton] at hx; subst hx; exact ⟨by show n ≠ 2; omega, by show n < 10; omega⟩
  · exact h.ds
  · show dat (putS st.N n E) = _
    rw [← h.dn]
    exact dat_eq (putS_len h.ok.n (by omega) hE) h.ok.n fun m h1 h2 => sec_put_other h.ok.n (by omega) h2 hE (by omega)
theorem NH.bar {st : Dk} {D : List Int} (h : NH st D) : NH (doE st barR) D := by
  refine ⟨h.ok.bar, ?_, ?_, ?_, ?_, ?_⟩ <;> rw [doE_bar h.ok]
  · exact h.n2
  · exact h.n2
  · intro x hx; exact absurd hx List.not_mem_nil
  · exact h.dn
  · exact h.dn
theorem zS_bytes : ByteL zS := fun x hx => by unfold zS at hx; rw [List.mem_replicate] at hx; omega
theorem ByteL.over {l D : List Int} (h : ByteL l) (hD : ByteL D) (o : Nat) : ByteL (over l o D) := by
  intro x hx
  unfold Go.Proofs.Ytdcplaonafmbjaa.over at hx
  rcases List.mem_append.1 hx with hx | hx
  · exact h x (List.mem_of_mem_take hx)
  · rcases List.mem_append.1 hx with hx | hx
    · exact hD x hx
    · exact h x (List.mem_of_mem_drop hx)
theorem ByteL.set {l : List Int} (h : ByteL l) (i : Nat) {x : Int} (hx : 0 ≤ x ∧ x ≤ 255) : ByteL (l.set i x) := fun y hy => by
  rcases List.mem_or_eq_of_mem_set hy with hy | hy
  · exact h y hy
  · rw [hy]; exact hx
theorem headK_bytes {sq : Int} {L : List Wr} (hq : 0 ≤ sq ∧ sq < 4294967296) (hg : GoodL L) : ∀ k, ByteL (headK sq L k)
  | 0 => ((zS_bytes.set 0 (by omega)).set 5 (by have := hg.l; omega)).over (wordB_in sq hq.1 hq.2) 1
  | k + 1 => by
    refine (headK_bytes hq hg k).set (6 + k) ?_
    cases h : L[k]? with
    | none => exact ⟨by show (0 : Int) ≤ ((0 : Nat) : Int); omega, by show ((0 : Nat) : Int) ≤ 255; omega⟩
    | some x =>
      have := (hg.n x (List.mem_of_getElem? h)).2
      exact ⟨by show (0 : Int) ≤ ((x.1 : Nat) : Int); omega, by show ((x.1 : Nat) : Int) ≤ 255; omega⟩
theorem tailW_bytes {sq sm : Int} (hq : 0 ≤ sq ∧ sq < 4294967296) (hm : 0 ≤ sm ∧ sm < 4294967296) : ByteL (tailW sq sm) :=
  ((zS_bytes.set 0 (by omega)).over (wordB_in sq hq.1 hq.2) 1).over (wordB_in sm hm.1 hm.2) 5
theorem Path.one {A : List Int → Prop} {st : Dk} {x : Rb} (h : Good A st) (h2 : Good A (doE st x)) : Path A st [x] := ⟨h, h2⟩
theorem run_app (st : Dk) (a b : List Rb) : runE st (a ++ b) = runE (runE st a) b := runE_app st a b

/-- The data that is told is written ahead. -/
theorem data_run {st : Dk} {D : List Int} {L : List Wr} (h : NH st D) (hg : GoodL L) (hb : LB L) : ∀ k, k ≤ L.length → NH (runE st (dataK L k)) D ∧ Path (fun X => X = D) st (dataK L k) ∧ ∀ (i : Nat) (hi : i < L.length), i < k → sec (runE st (dataK L k)).N (3 + i) = L[i].2
  | 0, _ => ⟨h, h.good, fun i _ hi => by omega⟩
  | k + 1, hk => by
    obtain ⟨h1, h2, h3⟩ := data_run h hg hb k (by omega)
    have hl := hg.l
    have hkl : k < L.length := by omega
    have hx := hb L[k] (List.getElem_mem hkl)
    have e : dataK L (k + 1) = dataK L k ++ [(3 + k, L[k].2, false)] := by
      show dataK L k ++ [(3 + k, (L[k]?.getD (0, [])).2, false)] = _
      rw [List.getElem?_eq_getElem hkl]; rfl
    rw [e]
    have h4 := h1.wr (n := 3 + k) (by omega) hx.1 hx.2
    refine ⟨by rw [run_app]; exact h4, h2.app (Path.one h1.good h4.good), fun i hi hik => ?_⟩
    rw [run_app]
    show sec (doE (runE st (dataK L k)) (3 + k, L[k].2, false)).N (3 + i) = _
    rw [doE_wr h1.ok]
    show sec (putS _ (3 + k) _) (3 + i) = _
    by_cases e2 : i = k
    · subst e2; exact sec_put_same h1.ok.n (by omega) hx.1
    · rw [sec_put_other h1.ok.n (by omega) (by omega) hx.1 (by omega)]
      exact h3 i hi (by omega)

/-- It is being told, or was. -/
theorem told_wr {st : Dk} {L P : List Wr} {sq : Int} (hst : DkW st) (h0 : 0 < L.length) (hg : GoodL L) (hb : LB L) (hq : 0 ≤ sq ∧ sq < 4294967296) (ht : Told st.S sq L) (hw : ∀ x ∈ st.W, x ∈ L) (hP : ∀ x ∈ P, x ∈ L) :
    Path (fun X => X = dat (foldN st.S L)) st (emit P) ∧ DkW (runE st (emit P)) ∧ (runE st (emit P)).S = st.S ∧ ∀ x ∈ (runE st (emit P)).W, x ∈ L := by
  induction P generalizing st with
  | nil => exact ⟨good_told hst.s h0 hg hb hq ht hw, hst, rfl, hw⟩
  | cons x P ih =>
    have hx := hP x (by simp)
    have h1 := hst.wr (n := x.1) (D := x.2) (hg.n x hx).2 (hb x hx).1 (hb x hx).2
    have e := doE_wr hst x.1 x.2
    have h2 := ih (st := doE st (x.1, x.2, false)) h1 (by rw [e]; exact ht) (by
      rw [e]
      intro y hy
      rcases List.mem_append.1 hy with hy | hy
      · exact hw y hy
      · rw [List.mem_singleton] at hy; subst hy; exact hx) fun y hy => hP y (by simp [hy])
    have eS : (doE st (x.1, x.2, false)).S = st.S := by rw [e]
    rw [eS] at h2
    exact ⟨⟨good_told hst.s h0 hg hb hq ht hw, h2.1⟩, h2.2⟩

end Go.Proofs.Ytdcplaonafmbjaa
