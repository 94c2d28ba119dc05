/- What a crash leaves of commits, plainly: a whole commit, several commits, and a fuse. -/
import Derived.Test.YtdcplaonafmbjaaJPl2
namespace Go.Proofs.Ytdcplaonafmbjaa
open Go.RowKit

theorem path_one {A : List Int → Prop} {st : Dk} {x : Rb} {l : List Rb} (h : Good A st) (h2 : Path A (doE st x) l) : Path A st (x :: l) := ⟨h, h2⟩
/-- A flush in between: what is read then lasts. -/
theorem Rest.bar {st : Dk} {D : List Int} {sq : Int} {L : List Wr} (h : Rest st D sq L) : Rest (doE st barR) D sq L := by
  refine ⟨h.ok.bar, ?_, ?_⟩ <;> rw [doE_bar h.ok]
  · exact h.d
  · rcases h.c with ⟨h1, h2, h3, h4, h5⟩ | ⟨h0, hg, hb, hq0, hq1, hs, hn, hw, hN⟩
    · exact Or.inl ⟨h1, h2, h4, h4, rfl⟩
    · refine Or.inr ⟨h0, hg, hb, hq0, hq1, hn, hn, fun x hx => absurd hx List.not_mem_nil, fun m h1 h2 => ?_⟩
      show sec st.N m = (lastD L m).getD (sec st.N m)
      have := hN m h1 h2
      cases hl : lastD L m with
      | none => rfl
      | some D => rw [hl] at this; exact this
/-- The head's row is cleared: the journal tells nothing. -/
theorem clear_head {st : Dk} {D : List Int} {sq : Int} {L : List Wr} (h : Rest st D sq L) : Path (fun X => X = D) st [barR, (2, zS, false), barR] ∧ NH (runE st [barR, (2, zS, false), barR]) D := by
  have h1 := h.bar
  have e1 : (doE st barR).S = (doE st barR).N ∧ (doE st barR).W = [] := by rw [doE_bar h.ok]; exact ⟨rfl, rfl⟩
  generalize hst1 : doE st barR = s1 at h1 e1
  have hw1 := h1.ok.wr (n := 2) (D := zS) (by omega) zS_len zS_bytes
  have e2 := doE_wr h1.ok 2 zS
  have hg2 : Good (fun X => X = D) (doE s1 (2, zS, false)) := by
    intro C hC
    rw [e2, e1.2] at hC
    have hoth : ∀ m, m < 20 → m ≠ 2 → sec C m = sec s1.N m := fun m hm hne => by
      rcases hC.mix m hm with h3 | h3
      · rw [h3]; show sec s1.S m = _; rw [e1.1]
      · have h4 : (m, sec C m) ∈ [((2 : Nat), zS)] := h3
        rw [List.mem_singleton] at h4
        exact absurd (congrArg Prod.fst h4) hne
    rcases hC.mix 2 (by omega) with h3 | h3
    · have : C = s1.N := sec_all_eq hC.len h1.ok.n fun m hm => by
        by_cases e : m = 2
        · subst e; rw [h3]; show sec s1.S 2 = _; rw [e1.1]
        · exact hoth m hm e
      subst this
      exact h1.good _ h1.ok.self
    · have h4 : (2, sec C 2) ∈ [((2 : Nat), zS)] := h3
      rw [List.mem_singleton] at h4
      have e := (open_nohead (congrArg Prod.snd h4)).1
      refine ⟨by rw [e]; exact goodL_nil, ?_⟩
      rw [rec_none e, ← h1.d]
      exact dat_eq hC.len h1.ok.n fun m h5 h6 => hoth m h6 (by omega)
  have hn2 : sec (doE s1 (2, zS, false)).N 2 = zS := by rw [e2]; exact sec_put_same h1.ok.n (by omega) zS_len
  have hd2 : dat (doE s1 (2, zS, false)).N = D := by
    rw [e2, ← h1.d]
    exact dat_eq (putS_len h1.ok.n (by omega) zS_len) h1.ok.n fun m h5 h6 => sec_put_other h1.ok.n (by omega) h6 zS_len (by omega)
  have h3 : NH (doE (doE s1 (2, zS, false)) barR) D := by
    refine ⟨hw1.bar, ?_, ?_, ?_, ?_, ?_⟩ <;> rw [doE_bar hw1]
    · exact hn2
    · exact hn2
    · intro x hx; exact absurd hx List.not_mem_nil
    · exact hd2
    · exact hd2
  refine ⟨path_one h.good ?_, ?_⟩
  · rw [hst1]
    exact path_one h1.good (path_one hg2 h3.good)
  · show NH (doE (doE (doE st barR) (2, zS, false)) barR) D
    rw [hst1]; exact h3

def dOne (D : List Int) (L : List Wr) (X : List Int) : Prop := X = D ∨ X = aftF D L
/-- A commit: wherever the power goes, all of it or nothing. -/
theorem commit_path {st : Dk} {D : List Int} {sq : Int} {L0 L : List Wr} (h : Rest st D sq L0) (h0 : 0 < L.length) (hg : GoodL L) (hb : LB L) (hq : 0 < sq + 1 ∧ sq + 1 < 4294967296) :
    Path (dOne D L) st (opsJ (sq + 1) L) ∧ Rest (runE st (opsJ (sq + 1) L)) (aftF D L) (sq + 1) L ∧ dat (runE st (opsJ (sq + 1) L)).S = D := by
  have hq' : 0 ≤ sq + 1 ∧ sq + 1 < 4294967296 := ⟨by omega, hq.2⟩
  have hl := hg.l
  have hsm := sumW_in L
  obtain ⟨pA, nA⟩ := clear_head h
  obtain ⟨nB, pB, hB⟩ := data_run nA hg hb L.length (Nat.le_refl _)
  rw [← run_app] at nB
  have pAB : Path (fun X => X = D) st (opsA L) := pA.app pB
  have eA : [barR, (2, zS, false), barR] ++ dataK L L.length = opsA L := rfl
  have hB' : ∀ (i : Nat) (hi : i < L.length), sec (runE st (opsA L)).N (3 + i) = L[i].2 := fun i hi => by
    rw [← eA, run_app]; exact hB i hi hi
  rw [eA] at nB
  generalize hsA : runE st (opsA L) = sA at nB hB'
  -- the tail's row is cleared
  have nC := nB.wr (n := 3 + L.length) (E := zS) (by omega) zS_len zS_bytes
  have eC := doE_wr nB.ok (3 + L.length) zS
  have hC2 : sec (doE sA (3 + L.length, zS, false)).N (3 + L.length) = zS := by rw [eC]; exact sec_put_same nB.ok.n (by omega) zS_len
  have hC3 : ∀ (i : Nat) (hi : i < L.length), sec (doE sA (3 + L.length, zS, false)).N (3 + i) = L[i].2 := fun i hi => by
    rw [eC]
    show sec (putS _ _ _) _ = _
    rw [sec_put_other nB.ok.n (by omega) (by omega) zS_len (by omega)]; exact hB' i hi
  generalize hsC : doE sA (3 + L.length, zS, false) = sC at nC hC2 hC3
  have nD := nC.bar
  have eD := doE_bar nC.ok
  have eD1 : (doE sC barR).S = sC.N ∧ (doE sC barR).N = sC.N ∧ (doE sC barR).W = [] := by rw [eD]; exact ⟨rfl, rfl, rfl⟩
  generalize hsD : doE sC barR = sD at nD eD1
  -- the head
  have wE := nD.ok.wr (n := 2) (D := headW (sq + 1) L) (by omega) (headK_len _ _ _) (headK_bytes hq' hg _)
  have eE := doE_wr nD.ok 2 (headW (sq + 1) L)
  -- the tail
  have wF := wE.wr (n := 3 + L.length) (D := tailW (sq + 1) (sumW L)) (by omega) (tailW_len _ _) (tailW_bytes hq' hsm)
  have eF := doE_wr wE (3 + L.length) (tailW (sq + 1) (sumW L))
  have hlen2 := putS_len (D := headW (sq + 1) L) nD.ok.n (show 2 < 20 by omega) (headK_len _ _ _)
  have eE' : doE sD (2, headW (sq + 1) L, false) = { S := sC.N, N := putS sC.N 2 (headW (sq + 1) L), W := [(2, headW (sq + 1) L)], fu := -1 } := by
    rw [eE, eD1.1, eD1.2.1, eD1.2.2]; rfl
  have eF' : doE (doE sD (2, headW (sq + 1) L, false)) (3 + L.length, tailW (sq + 1) (sumW L), false) = { S := sC.N, N := putS (putS sC.N 2 (headW (sq + 1) L)) (3 + L.length) (tailW (sq + 1) (sumW L)), W := [(2, headW (sq + 1) L), (3 + L.length, tailW (sq + 1) (sumW L))], fu := -1 } := by
    rw [eF, eE']; rfl
  have hn2 : sec sC.N 2 = zS := nC.n2
  have hdC : dat sC.N = D := nC.dn
  have cn := nC.ok.n
  have key : ∀ C, C.length = 64 * 20 → (∀ m, m < 20 → m ≠ 2 → m ≠ 3 + L.length → sec C m = sec sC.N m) → (sec C 2 = zS ∨ sec C 2 = headW (sq + 1) L) → (sec C (3 + L.length) = zS ∨ (sec C (3 + L.length) = tailW (sq + 1) (sumW L))) → GoodL (openL C) ∧ dOne D L (recD C) := by
    intro C hCl hoth hc2 hct
    have hd : dat C = D := by
      rw [← hdC]
      exact dat_eq hCl cn fun m h5 h6 => hoth m h6 (by omega) (by omega)
    have none : openL C = [] → GoodL (openL C) ∧ dOne D L (recD C) := fun e => ⟨by rw [e]; exact goodL_nil, Or.inl (by rw [rec_none e, hd])⟩
    rcases hc2 with hc2 | hc2
    · exact none (open_nohead hc2).1
    · rcases hct with hct | hct
      · exact none (open_half hc2 h0 hl hq' hct)
      · have ht : Told C (sq + 1) L := ⟨hc2, fun i hi => (hoth (3 + i) (by omega) (by omega) (by omega)).trans (hC3 i hi), hct⟩
        have e := (open_told ht h0 hg hq').1
        refine ⟨by rw [e]; exact hg, Or.inr ?_⟩
        unfold recD
        rw [e, dat_fold hCl hg.n hb, hd]
  have gE : Good (dOne D L) (doE sD (2, headW (sq + 1) L, false)) := by
    intro C hC
    rw [eE'] at hC
    have hw : ∀ m, m < 20 → m ≠ 2 → sec C m = sec sC.N m := fun m hm hne => by
      rcases hC.mix m hm with h3 | h3
      · exact h3
      · have h4 : (m, sec C m) ∈ [((2 : Nat), headW (sq + 1) L)] := h3
        rw [List.mem_singleton] at h4
        exact absurd (congrArg Prod.fst h4) hne
    refine key C hC.len (fun m hm h1 _ => hw m hm h1) ?_ (Or.inl ((hw _ (by omega) (by omega)).trans hC2))
    rcases hC.mix 2 (by omega) with h3 | h3
    · exact Or.inl (h3.trans hn2)
    · have h4 : (2, sec C 2) ∈ [((2 : Nat), headW (sq + 1) L)] := h3
      rw [List.mem_singleton] at h4
      exact Or.inr (congrArg Prod.snd h4)
  have gF : Good (dOne D L) (doE (doE sD (2, headW (sq + 1) L, false)) (3 + L.length, tailW (sq + 1) (sumW L), false)) := by
    intro C hC
    rw [eF'] at hC
    have hmem : ∀ m, m < 20 → sec C m = sec sC.N m ∨ (m = 2 ∧ sec C m = headW (sq + 1) L) ∨ (m = 3 + L.length ∧ sec C m = tailW (sq + 1) (sumW L)) := fun m hm => by
      rcases hC.mix m hm with h3 | h3
      · exact Or.inl h3
      · have h4 : (m, sec C m) ∈ [((2 : Nat), headW (sq + 1) L), (3 + L.length, tailW (sq + 1) (sumW L))] := h3
        rcases List.mem_cons.1 h4 with h5 | h5
        · exact Or.inr (Or.inl ⟨congrArg Prod.fst h5, congrArg Prod.snd h5⟩)
        · rw [List.mem_singleton] at h5
          exact Or.inr (Or.inr ⟨congrArg Prod.fst h5, congrArg Prod.snd h5⟩)
    refine key C hC.len (fun m hm h1 h2 => ?_) ?_ ?_
    · rcases hmem m hm with h3 | ⟨h3, _⟩ | ⟨h3, _⟩
      · exact h3
      · exact absurd h3 h1
      · exact absurd h3 h2
    · rcases hmem 2 (by omega) with h3 | ⟨_, h3⟩ | ⟨h3, _⟩
      · exact Or.inl (h3.trans hn2)
      · exact Or.inr h3
      · omega
    · rcases hmem (3 + L.length) (by omega) with h3 | ⟨h3, _⟩ | ⟨_, h3⟩
      · exact Or.inl (h3.trans hC2)
      · omega
      · exact Or.inr h3
  -- it is told
  have eG := doE_bar wF
  have wG := wF.bar
  obtain ⟨NG, hNG⟩ : ∃ X, putS (putS sC.N 2 (headW (sq + 1) L)) (3 + L.length) (tailW (sq + 1) (sumW L)) = X := ⟨_, rfl⟩
  have eG1 : (doE (doE (doE sD (2, headW (sq + 1) L, false)) (3 + L.length, tailW (sq + 1) (sumW L), false)) barR).S = NG ∧ (doE (doE (doE sD (2, headW (sq + 1) L, false)) (3 + L.length, tailW (sq + 1) (sumW L), false)) barR).N = NG ∧ (doE (doE (doE sD (2, headW (sq + 1) L, false)) (3 + L.length, tailW (sq + 1) (sumW L), false)) barR).W = [] := by
    rw [eG, eF', ← hNG]; exact ⟨rfl, rfl, rfl⟩
  have cn2 := putS_len (D := headW (sq + 1) L) cn (show 2 < 20 by omega) (headK_len _ _ _)
  have hH64 : (headW (sq + 1) L).length = 64 := headK_len _ _ _
  have tG : Told NG (sq + 1) L := by
    rw [← hNG]
    refine ⟨?_, fun i hi => ?_, sec_put_same cn2 (by omega) (tailW_len _ _)⟩
    · rw [sec_put_other cn2 (by omega) (by omega) (tailW_len _ _) (by omega), sec_put_same cn (by omega) hH64]
    · rw [sec_put_other cn2 (by omega) (by omega) (tailW_len _ _) (by omega), sec_put_other cn (by omega) (by omega) hH64 (by omega)]
      exact hC3 i hi
  have dG : dat NG = D := by
    rw [← hdC, ← hNG]
    exact dat_eq (putS_len cn2 (by omega) (tailW_len _ _)) cn fun m h5 h6 => by
      rw [sec_put_other cn2 (by omega) (by omega) (tailW_len _ _) (by omega), sec_put_other cn (by omega) (by omega) hH64 (by omega)]
  generalize hsG : doE (doE (doE sD (2, headW (sq + 1) L, false)) (3 + L.length, tailW (sq + 1) (sumW L), false)) barR = sG at wG eG1
  have eT : orderF (emit L) 0 = emit (partF L 0) := by
    show orderG [] 0 (emit L) = _
    rw [orderG_emit, List.nil_append]
  have hPL : ∀ x ∈ partF L 0, x ∈ L := fun x hx => lastD_mem L x.1 x.2 ((partF_mem L 0 (by omega) x).1 hx).2
  have tGS : Told sG.S (sq + 1) L := by rw [eG1.1]; exact tG
  obtain ⟨pT, wT, sT, cT⟩ := told_wr wG h0 hg hb hq' tGS (by rw [eG1.2.2]; intro x hx; exact absurd hx List.not_mem_nil) hPL
  have hfold : dat (foldN sG.S L) = aftF D L := by rw [dat_fold wG.s hg.n hb, eG1.1, dG]
  rw [hfold] at pT
  have hwr := good_wr hg hb
  have hNT : (runE sG (emit (partF L 0))).N = foldN NG L := by
    rw [(run_emit wG.on fun x hx => hwr x (hPL x hx)).1, foldN_part (k := 20) (by omega) (by omega) wG.n hwr, eG1.2.1]
  have hNGl : NG.length = 64 * 20 := by rw [← eG1.2.1]; exact wG.n
  -- all of it
  have eAll : opsJ (sq + 1) L = opsA L ++ ((3 + L.length, zS, false) :: barR :: (2, headW (sq + 1) L, false) :: (3 + L.length, tailW (sq + 1) (sumW L), false) :: barR :: emit (partF L 0)) := by
    unfold opsJ opsB
    rw [eT, List.append_assoc]; rfl
  have eRun : runE st (opsJ (sq + 1) L) = runE sG (emit (partF L 0)) := by
    rw [eAll, run_app, hsA]
    show runE (doE (doE (doE (doE (doE sA _) _) _) _) _) _ = _
    rw [hsC, hsD, hsG]
  refine ⟨?_, ?_, by rw [eRun, sT, eG1.1]; exact dG⟩
  · rw [eAll]
    refine (pAB.mono fun X hX => Or.inl hX).app ?_
    rw [hsA]
    refine path_one (nB.good.mono fun X hX => Or.inl hX) ?_
    rw [hsC]
    refine path_one (nC.good.mono fun X hX => Or.inl hX) ?_
    rw [hsD]
    refine path_one (nD.good.mono fun X hX => Or.inl hX) (path_one gE (path_one gF ?_))
    rw [hsG]
    exact pT.mono fun X hX => Or.inr hX
  · rw [eRun]
    refine ⟨wT, ?_, Or.inr ⟨h0, hg, hb, hq.1, hq.2, ?_, ?_, cT, fun m h1 h2 => ?_⟩⟩
    · rw [hNT, ← hfold, eG1.1]
    · rw [sT]; exact tGS
    · rw [hNT]
      refine tG.congr hl fun m hm => ?_
      rw [foldN_sec hNGl hwr m (by omega)]
      have : lastD L m = none := (lastD_none L m).2 fun x hx e => by have := (hg.n x hx).1; omega
      rw [this]; rfl
    · rw [hNT, sT, eG1.1, foldN_sec hNGl hwr m h2]

/-- Commits, as operations of the disk. -/
def opsC (sq : Int) (L : List Wr) : List Rb := if L.length = 0 then [barR] else opsJ (sq + 1) L
def sqC (sq : Int) (L : List Wr) : Int := if L.length = 0 then sq else sq + 1
def lastC (L0 L : List Wr) : List Wr := if L.length = 0 then L0 else L
theorem any_commit {st : Dk} {D : List Int} {sq : Int} {L0 L : List Wr} (h : Rest st D sq L0) (hg : GoodL L) (hb : LB L) (hq : 0 < sq + 1 ∧ sq + 1 < 4294967296) :
    Path (dOne D L) st (opsC sq L) ∧ Rest (runE st (opsC sq L)) (aftF D L) (sqC sq L) (lastC L0 L) := by
  unfold opsC sqC lastC
  by_cases e : L.length = 0
  · rw [if_pos e, if_pos e, if_pos e]
    have : L = [] := List.length_eq_zero_iff.1 e
    subst this
    exact ⟨path_one (h.good.mono fun X hX => Or.inl hX) (h.bar.good.mono fun X hX => Or.inl hX), h.bar⟩
  · rw [if_neg e, if_neg e, if_neg e]
    have h1 := commit_path h (by omega) hg hb hq
    exact ⟨h1.1, h1.2.1⟩

def tick (st : Dk) (f : Nat) : Dk := { st with fu := (f : Int) }
theorem tick_dead (st : Dk) (x : Rb) : doE (tick st 0) x = tick st 0 := by
  unfold doE
  split
  · unfold flushE; exact if_pos rfl
  · unfold writeE; exact if_pos rfl
theorem run_dead (st : Dk) : ∀ l : List Rb, runE (tick st 0) l = tick st 0
  | [] => rfl
  | x :: l => by show runE (doE (tick st 0) x) l = _; rw [tick_dead]; exact run_dead st l
theorem tick_step {st : Dk} (h : st.fu = -1) (x : Rb) (f : Nat) : doE (tick st (f + 1)) x = tick (doE st x) f ∧ (doE st x).fu = -1 := by
  have hd : decF (((f + 1 : Nat) : Int)) = (f : Int) := by unfold decF; split <;> omega
  have hd2 : decF (-1) = -1 := rfl
  unfold doE
  split
  · unfold flushE
    rw [if_neg (show ¬ (tick st (f + 1)).fu = 0 by show ¬ ((f + 1 : Nat) : Int) = 0; omega), if_neg (by omega), h, hd2]
    exact ⟨by show Dk.mk _ _ _ (decF ((f + 1 : Nat) : Int)) = _; rw [hd]; rfl, rfl⟩
  · unfold writeE
    rw [if_neg (show ¬ (tick st (f + 1)).fu = 0 by show ¬ ((f + 1 : Nat) : Int) = 0; omega), if_neg (by omega), h, hd2]
    exact ⟨by show Dk.mk _ _ _ (decF ((f + 1 : Nat) : Int)) = _; rw [hd]; rfl, rfl⟩
theorem run_tick : ∀ (l : List Rb) {st : Dk} (f : Nat), st.fu = -1 → runE (tick st f) l = tick (runE st (l.take f)) (f - l.length)
  | [], st, f, _ => by rw [List.take_nil]; rfl
  | x :: l, st, 0, _ => by rw [run_dead, List.take_zero, Nat.zero_sub]; rfl
  | x :: l, st, f + 1, h => by
    have hs := tick_step h x f
    show runE (doE (tick st (f + 1)) x) l = _
    rw [hs.1, run_tick l f hs.2, List.length_cons, show f + 1 - (l.length + 1) = f - l.length by omega]
    rfl

end Go.Proofs.Ytdcplaonafmbjaa
