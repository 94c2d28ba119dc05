/- What requests do to a disk, plainly: in their order, or as they stand. -/
import Derived.Test.YtdcplaonafmbjaaLiftP
import Derived.Test.YtdcplaonafmbjaaDkSpun
namespace Go.Proofs.Ytdcplaonafmbjaa

def doE (st : Dk) (x : Rb) : Dk := if x.2.2 = true then flushE st else writeE st x.1 x.2.1
def runE (st : Dk) (l : List Rb) : Dk := l.foldl doE st
theorem runE_snoc (st : Dk) (l : List Rb) (x : Rb) : runE st (l ++ [x]) = doE (runE st l) x := by unfold runE; rw [List.foldl_append]; rfl
theorem runE_app (st : Dk) (a b : List Rb) : runE st (a ++ b) = runE (runE st a) b := by unfold runE; rw [List.foldl_append]
theorem doE_W (st : Dk) (x : Rb) : (doE st x).W.length ≤ st.W.length + 1 := by
  unfold doE; split
  · have := flushE_W st; omega
  · exact writeE_W _ _ _
theorem runE_W (st : Dk) (l : List Rb) : (runE st l).W.length ≤ st.W.length + l.length := by
  induction l generalizing st with
  | nil => exact Nat.le_refl _
  | cons x l ih =>
    have h1 := ih (doE st x)
    have h2 := doE_W st x
    show (runE (doE st x) l).W.length ≤ _
    rw [List.length_cons]; omega
/-- A disk of k sectors with power. -/
structure On (st : Dk) (k : Nat) : Prop where
  fu : st.fu = -1
  n : st.N.length = 64 * k
def RbOk (k : Nat) (x : Rb) : Prop := x.2.2 = true ∨ (x.1 < k ∧ x.2.1.length = 64)
def WrOk (k : Nat) (x : Wr) : Prop := x.1 < k ∧ x.2.length = 64
theorem flush_on {st : Dk} {k : Nat} (h : On st k) : flushE st = { S := st.N, N := st.N, W := [], fu := -1 } := by
  unfold flushE; rw [if_neg (by rw [h.fu]; decide), h.fu]; rfl
theorem write_on {st : Dk} {k : Nat} (h : On st k) (n : Nat) (D : List Int) : writeE st n D = { S := st.S, N := putS st.N n D, W := st.W ++ [(n, D)], fu := -1 } := by
  unfold writeE; rw [if_neg (by rw [h.fu]; decide), h.fu]; rfl
theorem On.flush {st : Dk} {k : Nat} (h : On st k) : On (flushE st) k := by rw [flush_on h]; exact ⟨rfl, h.n⟩
theorem On.do {st : Dk} {k : Nat} (h : On st k) {x : Rb} (hx : RbOk k x) : On (doE st x) k := by
  unfold doE
  split
  · exact h.flush
  · rename_i hb
    rcases hx with hx | ⟨h1, h2⟩
    · exact absurd hx hb
    · rw [write_on h]; exact ⟨rfl, putS_len h.n h1 h2⟩
theorem On.run {k : Nat} {l : List Rb} : ∀ {st : Dk}, On st k → (∀ x ∈ l, RbOk k x) → On (runE st l) k := by
  induction l with
  | nil => intro st h _; exact h
  | cons x l ih => intro st h hl; exact ih (h.do (hl x (by simp))) fun y hy => hl y (by simp [hy])
theorem fresh_on (k : Nat) : On (freshE k) k := ⟨rfl, by unfold freshE; simp⟩

def foldN (N : List Int) (P : List Wr) : List Int := P.foldl (fun N x => putS N x.1 x.2) N
theorem foldN_snoc (N : List Int) (P : List Wr) (x : Wr) : foldN N (P ++ [x]) = putS (foldN N P) x.1 x.2 := by unfold foldN; rw [List.foldl_append]; rfl
theorem foldN_len {N : List Int} {k : Nat} (P : List Wr) (hN : N.length = 64 * k) (hP : ∀ x ∈ P, WrOk k x) : (foldN N P).length = 64 * k := by
  induction P generalizing N with
  | nil => exact hN
  | cons x P ih =>
    have := hP x (by simp)
    exact ih (putS_len hN this.1 this.2) fun y hy => hP y (by simp [hy])
theorem foldN_take {N : List Int} {k : Nat} {P : List Wr} (hN : N.length = 64 * k) (hP : ∀ x ∈ P, WrOk k x) (m : Nat) (hm : m < k) : ∀ j, j ≤ P.length → sec (foldN N (P.take j)) m = (lastD (P.take j) m).getD (sec N m) := by
  intro j
  induction j with
  | zero => intro _; rfl
  | succ j ih =>
    intro hj
    have hjl : j < P.length := by omega
    have hx := hP P[j] (List.getElem_mem hjl)
    have hl := foldN_len (P.take j) hN fun y hy => hP y (List.mem_of_mem_take hy)
    rw [← List.take_append_getElem hjl, foldN_snoc, lastD_snoc]
    by_cases e : P[j].1 = m
    · rw [if_pos e, ← e, sec_put_same hl hx.1 hx.2]; rfl
    · rw [if_neg e, sec_put_other hl hx.1 hm hx.2 (fun h => e h.symm)]
      exact ih (by omega)
theorem foldN_sec {N : List Int} {k : Nat} {P : List Wr} (hN : N.length = 64 * k) (hP : ∀ x ∈ P, WrOk k x) (m : Nat) (hm : m < k) : sec (foldN N P) m = (lastD P m).getD (sec N m) := by
  have := foldN_take hN hP m hm P.length (Nat.le_refl _)
  rwa [List.take_length] at this
theorem part_ok {k : Nat} {P : List Wr} {h : Nat} (hh : h < 256) (hP : ∀ x ∈ P, WrOk k x) : ∀ x ∈ partF P h, WrOk k x := by
  intro x hx
  exact hP _ (lastD_mem P x.1 x.2 ((partF_mem P h hh x).1 hx).2)
theorem foldN_part {N : List Int} {k : Nat} {P : List Wr} {h : Nat} (hk : k ≤ 256) (hh : h < 256) (hN : N.length = 64 * k) (hP : ∀ x ∈ P, WrOk k x) : foldN N (partF P h) = foldN N P := by
  refine sec_ext (foldN_len _ hN (part_ok hh hP)) (foldN_len _ hN hP) fun m hm => ?_
  rw [foldN_sec hN (part_ok hh hP) m hm, foldN_sec hN hP m hm, lastD_part P h m hh (by omega)]
theorem emit_ok {k : Nat} {P : List Wr} (hP : ∀ x ∈ P, WrOk k x) : ∀ x ∈ emit P, RbOk k x := by
  intro x hx
  obtain ⟨y, hy, rfl⟩ := List.mem_map.1 hx
  exact Or.inr (hP y hy)
theorem run_emit {k : Nat} {P : List Wr} : ∀ {st : Dk}, On st k → (∀ x ∈ P, WrOk k x) → (runE st (emit P)).N = foldN st.N P ∧ (runE st (emit P)).S = st.S := by
  induction P with
  | nil => intro st _ _; exact ⟨rfl, rfl⟩
  | cons x P ih =>
    intro st h hP
    have hx := hP x (by simp)
    have e : doE st (x.1, x.2, false) = writeE st x.1 x.2 := by unfold doE; rw [if_neg (by simp)]
    have h1 := ih (st := doE st (x.1, x.2, false)) (h.do (Or.inr hx)) fun y hy => hP y (by simp [hy])
    show (runE (doE st (x.1, x.2, false)) (emit P)).N = foldN (putS st.N x.1 x.2) P ∧ (runE (doE st (x.1, x.2, false)) (emit P)).S = _
    rw [h1.1, h1.2, e, write_on h]
    exact ⟨rfl, rfl⟩
theorem run_congr {k : Nat} {l : List Rb} : ∀ {st st' : Dk}, On st k → On st' k → st.N = st'.N → (∀ x ∈ l, RbOk k x) → (runE st l).N = (runE st' l).N := by
  induction l with
  | nil => intro st st' _ _ e _; exact e
  | cons x l ih =>
    intro st st' h h' e hl
    have hx := hl x (by simp)
    refine ih (h.do hx) (h'.do hx) ?_ fun y hy => hl y (by simp [hy])
    unfold doE
    split
    · rw [flush_on h, flush_on h']; exact e
    · rw [write_on h, write_on h']; show putS _ _ _ = putS _ _ _; rw [e]
theorem wrs_okE {k : Nat} {P : List Wr} {r : List Rb} (h : ∀ x ∈ emit P ++ r, RbOk k x) : ∀ x ∈ P, WrOk k x := by
  intro x hx
  have := h (x.1, x.2, false) (List.mem_append_left _ (List.mem_map.2 ⟨x, hx, rfl⟩))
  rcases this with h | h
  · cases h
  · exact h
/-- In their order they leave what they leave as they stand. -/
theorem run_order {k : Nat} (hk : k ≤ 256) (l : List Rb) (h : Nat) (hh : h < 256) (st : Dk) (hs : On st k) (hl : ∀ x ∈ l, RbOk k x) : (runE st (orderG [] h l)).N = (runE st l).N ∧ ∀ x ∈ orderG [] h l, RbOk k x := by
  have key : ∀ (j : Nat) (l : List Rb) (h : Nat) (st : Dk), h < 256 → l.length ≤ j → On st k → (∀ x ∈ l, RbOk k x) → (runE st (orderG [] h l)).N = (runE st l).N ∧ ∀ x ∈ orderG [] h l, RbOk k x := by
    intro j
    induction j with
    | zero =>
      intro l h st hh hlen hs hl
      have : l = [] := by cases l with | nil => rfl | cons a l => simp at hlen
      subst this
      have e : orderG [] h [] = emit (partF [] h) := rfl
      rw [e, (run_emit hs (part_ok hh (fun x hx => by simp at hx))).1, foldN_part hk hh hs.n (fun x hx => by simp at hx)]
      exact ⟨rfl, emit_ok (part_ok hh (fun x hx => by simp at hx))⟩
    | succ j ih =>
      intro l h st hh hlen hs hl
      rcases parts_of l with ⟨P, rfl⟩ | ⟨P, m, D, r, rfl, hr⟩
      · have hP : ∀ x ∈ P, WrOk k x := wrs_okE (r := []) (by simpa using hl)
        rw [orderG_emit, List.nil_append, (run_emit hs (part_ok hh hP)).1, (run_emit hs hP).1, foldN_part hk hh hs.n hP]
        exact ⟨rfl, emit_ok (part_ok hh hP)⟩
      · have hP : ∀ x ∈ P, WrOk k x := wrs_okE hl
        have hr2 : ∀ x ∈ r, RbOk k x := fun x hx => hl x (by simp [hx])
        have o1 := hs.run (emit_ok (part_ok hh hP))
        have o2 := hs.run (emit_ok hP)
        have h1 := ih r (headF P h) (flushE (runE st (emit (partF P h)))) (headF_lt P h hh) (by omega) o1.flush hr2
        rw [orderG_cut, List.nil_append]
        refine ⟨?_, fun x hx => ?_⟩
        · rw [runE_app, runE_app]
          show (runE (flushE (runE st (emit (partF P h)))) _).N = (runE (flushE (runE st (emit P))) _).N
          rw [h1.1]
          refine run_congr o1.flush o2.flush ?_ hr2
          rw [flush_on o1, flush_on o2]
          show (runE st (emit (partF P h))).N = (runE st (emit P)).N
          rw [(run_emit hs (part_ok hh hP)).1, (run_emit hs hP).1, foldN_part hk hh hs.n hP]
        · rcases List.mem_append.1 hx with hx | hx
          · exact emit_ok (part_ok hh hP) x hx
          · rcases List.mem_cons.1 hx with rfl | hx
            · exact Or.inl rfl
            · exact h1.2 x hx
  exact key l.length l h st hh (Nat.le_refl _) hs hl
/-- Of two parts with a barrier between them the first one lasts. -/
theorem run_bar {k : Nat} (hk : k ≤ 256) (a : List Rb) (P : List Wr) (st : Dk) (hs : On st k) (ha : ∀ x ∈ a, RbOk k x) (hP : ∀ x ∈ P, WrOk k x) :
    (crashE (runE st (orderF (a ++ barR :: emit P) 0)) []).S = (flushE (runE st (orderF a 0))).S := by
  obtain ⟨h2, hh2, e⟩ := orderG_app a (emit P) 0 (by omega)
  have oa := hs.run (run_order hk a 0 (by omega) st hs ha).2
  show crashS _ _ [] = _
  rw [crashS_none]
  unfold orderF
  rw [e, runE_app, orderG_emit, List.nil_append]
  show (runE (flushE (runE st (orderG [] 0 a))) (emit (partF P h2))).S = _
  rw [(run_emit oa.flush (part_ok hh2 hP)).2]

end Go.Proofs.Ytdcplaonafmbjaa
