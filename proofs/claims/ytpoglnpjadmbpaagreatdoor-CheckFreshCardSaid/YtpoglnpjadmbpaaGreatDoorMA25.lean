/- Part of the proofs of CheckFresh, FsCut, FsHoles: the texts LiftRunP, Rq, RqOps. -/
import Derived.Test.YtpoglnpjadmbpaaGreatDoorMA1
import Derived.Test.YtpoglnpjadmbpaaGreatDoorMA23
set_option maxHeartbeats 16000000
namespace Go.Proofs.YtpoglnpjadmbpaaGreatDoor
def doE (st : Dk) (x : Rb) : Dk := if x.2.2 = true then qfr st else qcc st x.1 x.2.1
def runE (st : Dk) (l : List Rb) : Dk := l.foldl doE st
theorem qsy (st : Dk) (l : List Rb) (x : Rb) : runE st (l ++ [x]) = doE (runE st l) x := by unfold runE; rw [List.foldl_append]; rfl
theorem qns (st : Dk) (a b : List Rb) : runE st (a ++ b) = runE (runE st a) b := by unfold runE; rw [List.foldl_append]
theorem qwm (st : Dk) (x : Rb) : (doE st x).W.length ≤ st.W.length + 1 := by
 unfold doE; split
 ·have := ybsb st; omega
 ·exact qqn _ _ _
theorem ybgq (st : Dk) (l : List Rb) : (runE st l).W.length ≤ st.W.length + l.length := by
 induction l generalizing st with
 | nil => exact Nat.le_refl _
 | cons x l ih =>
  have h1 := ih (doE st x)
  have h2 := qwm st x
  show (runE (doE st x) l).W.length ≤ _
  rw [List.length_cons]; omega
structure On (st : Dk) (k : Nat) : Prop where
 fu : st.fu = -1
 n : st.N.length = 64 * k
def RbOk (k : Nat) (x : Rb) : Prop := x.2.2 = true ∨ (x.1 < k ∧ x.2.1.length = 64)
def WrOk (k : Nat) (x : Wr) : Prop := x.1 < k ∧ x.2.length = 64
theorem qmx {st : Dk} {k : Nat} (h : On st k) : qfr st = { S := st.N, N := st.N, W := [], fu := -1 } := by
 unfold qfr; rw [if_neg (by rw [h.fu]; decide), h.fu]; rfl
theorem qqo {st : Dk} {k : Nat} (h : On st k) (n : Nat) (D : List Int) : qcc st n D = { S := st.S, N := putS st.N n D, W := st.W ++ [(n, D)], fu := -1 } := by
 unfold qcc; rw [if_neg (by rw [h.fu]; decide), h.fu]; rfl
theorem On.flush {st : Dk} {k : Nat} (h : On st k) : On (qfr st) k := by rw [qmx h]; exact ⟨rfl, h.n⟩
theorem On.do {st : Dk} {k : Nat} (h : On st k) {x : Rb} (hx : RbOk k x) : On (doE st x) k := by
 unfold doE
 split
 ·exact h.flush
 ·rename_i hb
  rcases hx with hx | ⟨h1, h2⟩
  ·exact absurd hx hb
  ·rw [qqo h]; exact ⟨rfl, qgj h.n h1 h2⟩
theorem On.run {k : Nat} {l : List Rb} : ∀ {st : Dk}, On st k → (∀ x ∈ l, RbOk k x) → On (runE st l) k := by
 induction l with
 | nil => intro st h _; exact h
 | cons x l ih => intro st h hl; exact ih (h.do (hl x (by simp))) fun y hy => hl y (by simp [hy])
theorem ybsj (k : Nat) : On (qbo k) k := ⟨rfl, by unfold qbo; simp⟩
def qtw (N : List Int) (P : List Wr) : List Int := P.foldl (fun N x => putS N x.1 x.2) N
theorem ybib (N : List Int) (P : List Wr) (x : Wr) : qtw N (P ++ [x]) = putS (qtw N P) x.1 x.2 := by unfold qtw; rw [List.foldl_append]; rfl
theorem qrq {N : List Int} {k : Nat} (P : List Wr) (hN : N.length = 64 * k) (hP : ∀ x ∈ P, WrOk k x) : (qtw N P).length = 64 * k := by
 induction P generalizing N with
 | nil => exact hN
 | cons x P ih =>
  have := hP x (by simp)
  exact ih (qgj hN this.1 this.2) fun y hy => hP y (by simp [hy])
theorem ybic {N : List Int} {k : Nat} {P : List Wr} (hN : N.length = 64 * k) (hP : ∀ x ∈ P, WrOk k x) (m : Nat) (hm : m < k) : ∀ j, j ≤ P.length → sec (qtw N (P.take j)) m = (qex (P.take j) m).getD (sec N m) := by
 intro j
 induction j with
 | zero => intro _; rfl
 | succ j ih =>
  intro hj
  have hjl : j < P.length := by omega
  have hx := hP P[j] (List.getElem_mem hjl)
  have hl := qrq (P.take j) hN fun y hy => hP y (List.mem_of_mem_take hy)
  rw [← List.take_append_getElem hjl, ybib, qkv]
  by_cases e : P[j].1 = m
  ·rw [if_pos e, ← e, qfw hl hx.1 hx.2]; rfl
  ·rw [if_neg e, qet hl hx.1 hm hx.2 (fun h => e h.symm)]
   exact ih (by omega)
theorem qzj {N : List Int} {k : Nat} {P : List Wr} (hN : N.length = 64 * k) (hP : ∀ x ∈ P, WrOk k x) (m : Nat) (hm : m < k) : sec (qtw N P) m = (qex P m).getD (sec N m) := by
 have := ybic hN hP m hm P.length (Nat.le_refl _)
 rwa [List.take_length] at this
theorem qix {k : Nat} {P : List Wr} {h : Nat} (hh : h < 256) (hP : ∀ x ∈ P, WrOk k x) : ∀ x ∈ qdb P h, WrOk k x := by
 intro x hx
 exact hP _ (qng P x.1 x.2 ((qid P h hh x).1 hx).2)
theorem qon {N : List Int} {k : Nat} {P : List Wr} {h : Nat} (hk : k ≤ 256) (hh : h < 256) (hN : N.length = 64 * k) (hP : ∀ x ∈ P, WrOk k x) : qtw N (qdb P h) = qtw N P := by
 refine ybyx (qrq _ hN (qix hh hP)) (qrq _ hN hP) fun m hm => ?_
 rw [qzj hN (qix hh hP) m hm, qzj hN hP m hm, qvc P h m hh (by omega)]
theorem qrj {k : Nat} {P : List Wr} (hP : ∀ x ∈ P, WrOk k x) : ∀ x ∈ emit P, RbOk k x := by
 intro x hx
 obtain ⟨y, hy, rfl⟩ := List.mem_map.1 hx
 exact Or.inr (hP y hy)
theorem qnu {k : Nat} {P : List Wr} : ∀ {st : Dk}, On st k → (∀ x ∈ P, WrOk k x) → (runE st (emit P)).N = qtw st.N P ∧ (runE st (emit P)).S = st.S := by
 induction P with
 | nil => intro st _ _; exact ⟨rfl, rfl⟩
 | cons x P ih =>
  intro st h hP
  have hx := hP x (by simp)
  have e : doE st (x.1, x.2, false) = qcc st x.1 x.2 := by unfold doE; rw [if_neg (by simp)]
  have h1 := ih (st := doE st (x.1, x.2, false)) (h.do (Or.inr hx)) fun y hy => hP y (by simp [hy])
  show (runE (doE st (x.1, x.2, false)) (emit P)).N = qtw (putS st.N x.1 x.2) P ∧ (runE (doE st (x.1, x.2, false)) (emit P)).S = _
  rw [h1.1, h1.2, e, qqo h]
  exact ⟨rfl, rfl⟩
theorem ybpd {k : Nat} {l : List Rb} : ∀ {st st' : Dk}, On st k → On st' k → st.N = st'.N → (∀ x ∈ l, RbOk k x) → (runE st l).N = (runE st' l).N := by
 induction l with
 | nil => intro st st' _ _ e _; exact e
 | cons x l ih =>
  intro st st' h h' e hl
  have hx := hl x (by simp)
  refine ih (h.do hx) (h'.do hx) ?_ fun y hy => hl y (by simp [hy])
  unfold doE
  split
  ·rw [qmx h, qmx h']; exact e
  ·rw [qqo h, qqo h']; show putS _ _ _ = putS _ _ _; rw [e]
theorem ybql {k : Nat} {P : List Wr} {r : List Rb} (h : ∀ x ∈ emit P ++ r, RbOk k x) : ∀ x ∈ P, WrOk k x := by
 intro x hx
 have := h (x.1, x.2, false) (List.mem_append_left _ (List.mem_map.2 ⟨x, hx, rfl⟩))
 rcases this with h | h
 ·cases h
 ·exact h
theorem ybpe {k : Nat} (hk : k ≤ 256) (l : List Rb) (h : Nat) (hh : h < 256) (st : Dk) (hs : On st k) (hl : ∀ x ∈ l, RbOk k x) : (runE st (qct [] h l)).N = (runE st l).N ∧ ∀ x ∈ qct [] h l, RbOk k x := by
 have key : ∀ (j : Nat) (l : List Rb) (h : Nat) (st : Dk), h < 256 → l.length ≤ j → On st k → (∀ x ∈ l, RbOk k x) → (runE st (qct [] h l)).N = (runE st l).N ∧ ∀ x ∈ qct [] h l, RbOk k x := by
  intro j
  induction j with
  | zero =>
   intro l h st hh hlen hs hl
   have : l = [] := by cases l with | nil => rfl | cons a l => simp at hlen
   subst this
   have e : qct [] h [] = emit (qdb [] h) := rfl
   rw [e, (qnu hs (qix hh (fun x hx => by simp at hx))).1, qon hk hh hs.n (fun x hx => by simp at hx)]
   exact ⟨rfl, qrj (qix hh (fun x hx => by simp at hx))⟩
  | succ j ih =>
   intro l h st hh hlen hs hl
   rcases qxm l with ⟨P, rfl⟩ | ⟨P, m, D, r, rfl, hr⟩
   ·have hP : ∀ x ∈ P, WrOk k x := ybql (r := []) (by simpa using hl)
    rw [qfd, List.nil_append, (qnu hs (qix hh hP)).1, (qnu hs hP).1, qon hk hh hs.n hP]
    exact ⟨rfl, qrj (qix hh hP)⟩
   ·have hP : ∀ x ∈ P, WrOk k x := ybql hl
    have hr2 : ∀ x ∈ r, RbOk k x := fun x hx => hl x (by simp [hx])
    have o1 := hs.run (qrj (qix hh hP))
    have o2 := hs.run (qrj hP)
    have h1 := ih r (qjv P h) (qfr (runE st (emit (qdb P h)))) (qks P h hh) (by omega) o1.flush hr2
    rw [qic, List.nil_append]
    refine ⟨?_, fun x hx => ?_⟩
    ·rw [qns, qns]
     show (runE (qfr (runE st (emit (qdb P h)))) _).N = (runE (qfr (runE st (emit P))) _).N
     rw [h1.1]
     refine ybpd o1.flush o2.flush ?_ hr2
     rw [qmx o1, qmx o2]
     show (runE st (emit (qdb P h))).N = (runE st (emit P)).N
     rw [(qnu hs (qix hh hP)).1, (qnu hs hP).1, qon hk hh hs.n hP]
    ·rcases List.mem_append.1 hx with hx | hx
     ·exact qrj (qix hh hP) x hx
     ·rcases List.mem_cons.1 hx with rfl | hx
      ·exact Or.inl rfl
      ·exact h1.2 x hx
 exact key l.length l h st hh (Nat.le_refl _) hs hl
end Go.Proofs.YtpoglnpjadmbpaaGreatDoor
namespace Go.Proofs.YtpoglnpjadmbpaaGreatDoor
open Go.RowKit
structure Rq where
 n : Nat
 v : Value
 D : List Int
 b : Bool
def rab (x : Rq) : Rb := (x.n, x.D, x.b)
def rq3 (x : Rq) : List Value := [.int .i64 (x.n : Int), x.v, .bool x.b]
def qbg (E : List Rq) : List Value := E.flatMap rq3
theorem qie (l : List Rq) : (qbg l).length = l.length * 3 := by
 induction l with
 | nil => rfl
 | cons x l ih => simp only [qbg, rq3, List.flatMap_cons, List.length_append, List.length_cons, List.length_nil] at *; omega
theorem qgk (a b : List Rq) : qbg (a ++ b) = qbg a ++ qbg b := by simp [qbg]
theorem qss (x : Rq) (b : List Rq) : qbg (x :: b) = rq3 x ++ qbg b := by simp [qbg]
theorem qpi (l : List Rq) (k : Nat) : (qbg l).take (k * 3) = qbg (l.take k) ∧ (qbg l).drop (k * 3) = qbg (l.drop k) := by
 by_cases hk : k ≤ l.length
 ·have e : qbg l = qbg (l.take k) ++ qbg (l.drop k) := by rw [← qgk, List.take_append_drop]
  have hl : (qbg (l.take k)).length = k * 3 := by rw [qie, List.length_take]; omega
  constructor
  ·rw [e, ← hl, List.take_left]
  ·rw [e, ← hl, List.drop_left]
 ·have := qie l
  rw [List.take_of_length_le (l := l) (by omega), List.drop_of_length_le (l := l) (by omega), List.take_of_length_le (by omega), List.drop_of_length_le (by omega)]
  exact ⟨rfl, rfl⟩
theorem qff (l : List Rq) (k : Nat) (hk : k < l.length) : (qbg l)[k * 3]? = some (.int .i64 (l[k].n : Int)) ∧ (qbg l)[k * 3 + 1]? = some l[k].v ∧ (qbg l)[k * 3 + 2]? = some (.bool l[k].b) := by
 have e : qbg l = qbg (l.take k) ++ (.int .i64 (l[k].n : Int) :: l[k].v :: .bool l[k].b :: qbg (l.drop (k + 1))) := by
  conv => lhs; rw [← List.take_append_drop k l, List.drop_eq_getElem_cons hk, qgk, qss]
  rfl
 have hl : (qbg (l.take k)).length = k * 3 := by rw [qie, List.length_take]; omega
 rw [e]
 refine ⟨?_, ?_, ?_⟩
 ·rw [List.getElem?_append_right (by omega), hl, show k * 3 - k * 3 = 0 by omega]; rfl
 ·rw [List.getElem?_append_right (by omega), hl, show k * 3 + 1 - k * 3 = 1 by omega]; rfl
 ·rw [List.getElem?_append_right (by omega), hl, show k * 3 + 2 - k * 3 = 2 by omega]; rfl
def RqOk (w : World) (x : Rq) : Prop := (x.b = true ∧ x.n = 0 ∧ x.v = .slice none 0 0 ∧ x.D = []) ∨ (x.b = false ∧ x.n < 256 ∧ qae w x.v x.D ∧ x.D.length = 64)
theorem RqOk.below {w w' : World} {x : Rq} (h : RqOk w x) (hb : Below w.heap.size w w') : RqOk w' x := by
 rcases h with h | ⟨h1, h2, h3, h4⟩
 ·exact Or.inl h
 ·exact Or.inr ⟨h1, h2, qah.below h3 hb, h4⟩
def qqu (w : World) (base : Nat) (x : Rq) : Prop := (x.b = true ∧ x.n = 0 ∧ x.v = .slice none 0 0 ∧ x.D = []) ∨
 (x.b = false ∧ x.n < 256 ∧ x.D.length = 64 ∧ ∃ g cap cur, x.v = .slice (some ⟨g, 0, none⟩) 64 cap ∧ (base ≤ g ∧ 64 ≤ cap) ∧ w.heap[g]? = some (.cells cur 5 (0, 0)) ∧ cur.toList.take 64 = u8s x.D)
def qem (w : World) (base : Nat) (v : Value) (L : List Rb) : Prop := ∃ E : List Rq, E.map rab = L ∧ w.ownsRow base 171 3 v E.length (qbg E) ∧ ∀ x ∈ E, qqu w base x
theorem qqu.one {w : World} {base : Nat} {x : Rq} (h : qqu w base x) : x.v.oneCell' = true := by
 rcases h with ⟨_, _, h, _⟩ | ⟨_, _, _, g, cap, cur, h4, _⟩
 ·rw [h]; rfl
 ·rw [h4]; rfl
theorem qqu.mono {w : World} {base base' : Nat} {x : Rq} (h : qqu w base x) (hb : base' ≤ base) : qqu w base' x := by
 rcases h with h | ⟨h1, h2, h3, g, cap, cur, h4, h5, h6, h7⟩
 ·exact Or.inl h
 ·exact Or.inr ⟨h1, h2, h3, g, cap, cur, h4, ⟨Nat.le_trans hb h5.1, h5.2⟩, h6, h7⟩
theorem qqu.keep {w w' : World} {base : Nat} {x : Rq} (h : qqu w base x) (hk : ∀ i c, base ≤ i → w.heap[i]? = some (.cells c 5 (0, 0)) → w'.heap[i]? = w.heap[i]?) : qqu w' base x := by
 rcases h with h | ⟨h1, h2, h3, g, cap, cur, h4, h5, h6, h7⟩
 ·exact Or.inl h
 ·exact Or.inr ⟨h1, h2, h3, g, cap, cur, h4, h5, (hk g cur h5.1 h6).trans h6, h7⟩
theorem qem.keeps {w w' : World} {base : Nat} {v : Value} {L : List Rb} {F : Nat → Prop} (h : qem w base v L) (hk : qac F w w') (hF : ∀ i, base ≤ i → i < w.heap.size → ¬ F i) : qem w' base v L := by
 obtain ⟨E, he, h1, h2⟩ := h
 have hlt := h1.lt
 exact ⟨E, he, qch h1 fun b hb => hk.block b (hlt b hb).2 (hF b (hlt b hb).1 (hlt b hb).2), fun x hx => (h2 x hx).keep fun i c hi hc => hk.block i (qab hc) (hF i hi (qab hc))⟩
theorem qem.below {w w' : World} {base : Nat} {v : Value} {L : List Rb} (h : qem w base v L) (hb : Below w.heap.size w w') : qem w' base v L :=
 h.keeps (F := fun _ => False) (qac.of_below hb) fun _ _ _ h => h
theorem qem.mono {w : World} {base base' : Nat} {v : Value} {L : List Rb} (h : qem w base v L) (hb : base' ≤ base) : qem w base' v L := by
 obtain ⟨E, he, ⟨h1, h2⟩, h3⟩ := h
 refine ⟨E, he, ⟨h1, ?_⟩, fun x hx => (h3 x hx).mono hb⟩
 rcases h2 with h2 | ⟨g, cap, cur, hv, hg, r⟩
 ·exact Or.inl h2
 ·exact Or.inr ⟨g, cap, cur, hv, Nat.le_trans hb hg, r⟩
theorem ybei {E : List Rq} {L : List Rb} (h : E.map rab = L) : E.length = L.length := by rw [← h, List.length_map]
theorem ybul {w : World} {base : Nat} {E : List Rq} (h : ∀ x ∈ E, qqu w base x) : ∀ u ∈ qbg E, u.oneCell' = true := by
 intro u hu
 unfold qbg at hu
 obtain ⟨x, hx, hu⟩ := List.mem_flatMap.1 hu
 have := (h x hx).one
 simp [rq3] at hu
 rcases hu with rfl | rfl | rfl
 ·rfl
 ·exact this
 ·rfl
theorem qxs {w : World} {v : Value} {E : List Rq} (h : qah w v 3 E.length (qbg E)) : ∃ p cp, v = .slice p E.length cp ∧ Hid (0 < E.length → ∃ g o, p = some ⟨g, o, none⟩ ∧ g < w.heap.size ∧ ∀ (j : Nat) (x : Value), (qbg E)[j]? = some x → w.cell? ⟨g, o + j, none⟩ = some x) := by
 obtain ⟨_, ⟨h0, a0, c0, rfl⟩ | ⟨g, o, cap, rfl, hc⟩⟩ := h
 ·exact ⟨a0, c0, by rw [h0], fun h => by omega⟩
 ·refine ⟨_, cap, rfl, fun h0 => ⟨g, o, rfl, ?_, hc⟩⟩
  exact block_lt_of_cell (hc _ _ (qff E 0 h0).1)
theorem RqOk.shape {w : World} {x : Rq} (h : RqOk w x) : ∃ p l c, x.v = .slice p l c ∧ (x.b = false → l = 64) ∧ x.n < 256 := by
 rcases h with ⟨_, h2, h3, _⟩ | ⟨h1, h2, h3, h4⟩
 ·exact ⟨none, 0, 0, h3, fun h => by simp_all, by omega⟩
 ·obtain ⟨_, ⟨h0, _⟩ | ⟨g, o, cap, h5, _⟩⟩ := h3
  ·omega
  ·exact ⟨_, _, cap, h5, fun _ => h4, h2⟩
set_option maxRecDepth 100000 in
theorem ybuk (v : Value) (E : List Rq) (w : World) (hv : qah w v 3 E.length (qbg E)) (hE : ∀ x ∈ E, RqOk w x) (hl : E.length ≤ 100) :
  Calls Tryz.prog 175 #[v] w fun e w' => e = .returned (.int .i64 0) ∧ Below w.heap.size w w' := by
 obtain ⟨p, cp, rfl, HP⟩ := qxs hv
 obtain ⟨N, HN⟩ : ∃ N, Hid (E.length = N) := ⟨_, rfl⟩
 have HE := Lib.hid hE
 rw [HN.out] at hl HP
 rw [HN.out]
 clear hv hE
 have hN2 : ¬ (100 : Int) < (N : Int) := by omega
 go_enter Tryz.func175, Tryz.ntmps175
 go_wp2
 go_loopw [10] (fun i wr => ∃ k : Nat, k ≤ N ∧ i = .int .i64 k ∧ Below w.heap.size w wr) (fun i _ => N - (intOf i).toNat)
 case atStart => exact ⟨0, Nat.zero_le _, rfl, Below.refl _ _⟩
 case round =>
  obtain ⟨k, hk, rfl, HB⟩ := hrel
  by_cases hlt : k < N
  ·obtain ⟨g, o, rfl, hg, hc⟩ := HP.out (by omega)
   have hkl : k < E.length := by rw [HN.out]; exact hlt
   obtain ⟨e0, e1, e2⟩ := qff E k hkl
   obtain ⟨px, lx, cx, hxs, hx64, hxn⟩ := (HE.out E[k] (List.getElem_mem hkl)).shape
   rw [hxs] at e1
   have c0 := (HB.cell (p := ⟨g, o + k * 3, none⟩) hg).trans (hc _ _ e0)
   have c1 := (HB.cell (p := ⟨g, o + (k * 3 + 1), none⟩) hg).trans (hc _ _ e1)
   have c2 := (HB.cell (p := ⟨g, o + (k * 3 + 2), none⟩) hg).trans (hc _ _ e2)
   rw [← Nat.add_assoc] at c1 c2
   obtain ⟨xn, Hxn⟩ : ∃ q, Hid (E[k].n = q) := ⟨E[k].n, rfl⟩
   obtain ⟨xb, Hxb⟩ : ∃ q, Hid (E[k].b = q) := ⟨E[k].b, rfl⟩
   rw [Hxn.out] at c0 hxn
   rw [Hxb.out] at c2 hx64
   have hlt2 : (k : Int) < (N : Int) := by omega
   have hgl : g < wr.heap.size := Nat.lt_of_lt_of_le hg HB.size
   have hgn : ¬ g = wr.heap.size := by omega
   have HBA : Hid (Below w.heap.size w (wr.alloc (.cells #[.int .i64 (xn : Int), .slice px lx cx, .bool xb] 171))) := HB.alloc HB.size _
   clear hc e0 e1 e2 hxs
   cases xb with
   | true =>
    clear hx64
    go_wp2
    go_roundw
    case rel => exact ⟨k + 1, by omega, by go_num, HBA.out⟩
    case measure => simp [intOf]; omega
   | false =>
    have h64 := hx64 rfl
    subst h64
    have b1 : decide ((xn : Int) < 0) = false := by rw [decide_eq_false_iff_not]; omega
    have b2 : decide ((256 : Int) ≤ (xn : Int)) = false := by rw [decide_eq_false_iff_not]; omega
    have b3 : ¬ (256 : Int) ≤ (xn : Int) := by omega
    have b4 : ¬ 256 ≤ xn := by omega
    clear hx64
    go_wp2
    go_roundw
    case rel => exact ⟨k + 1, by omega, by go_num, HBA.out⟩
    case measure => simp [intOf]; omega
  ·go_wp2
   go_ret
   exact ⟨rfl, HB⟩
set_option maxRecDepth 100000 in
theorem ybqy (x : Rq) (w : World) (hx : ∃ p l c, x.v = .slice p l c) : Calls Tryz.prog 177 #[.agg #[.int .i64 (x.n : Int), x.v, .bool x.b]] w fun e w' => e = .returned (.bool x.b) ∧ Below w.heap.size w w' := by
 obtain ⟨p, l, c, hx⟩ := hx
 rw [hx]
 obtain ⟨xn, Hxn⟩ : ∃ q, Hid (x.n = q) := ⟨x.n, rfl⟩
 obtain ⟨xb, Hxb⟩ : ∃ q, Hid (x.b = q) := ⟨x.b, rfl⟩
 rw [Hxn.out, Hxb.out]
 go_enter Tryz.func177, Tryz.ntmps177
 go_wp2
 go_ret
 exact ⟨rfl, (Below.refl _ _).alloc (Nat.le_refl _) _⟩
def barI (E : List Rq) : Int := match E.findIdx? fun x => x.b with | some k => (k : Int) | none => -1
set_option maxRecDepth 100000 in
theorem ybqz (v : Value) (E : List Rq) (w : World) (hv : qah w v 3 E.length (qbg E)) (hE : ∀ x ∈ E, RqOk w x) (hl : E.length ≤ 1000) :
  Calls Tryz.prog 176 #[v, .func (.func 177) #[] #[]] w fun e w' => e = .returned (.int .i64 (barI E)) ∧ Below w.heap.size w w' := by
 obtain ⟨p, cp, rfl, HP⟩ := qxs hv
 obtain ⟨N, HN⟩ : ∃ N, Hid (E.length = N) := ⟨_, rfl⟩
 have HE := Lib.hid hE
 rw [HN.out] at hl HP
 rw [HN.out]
 clear hv hE
 go_enter Tryz.func176, Tryz.ntmps176
 go_wp2
 go_loopw [8] (fun i wr => ∃ k : Nat, k ≤ N ∧ i = .int .i64 k ∧ Hid (∀ j (hj : j < E.length), j < k → E[j].b = false) ∧ Below w.heap.size w wr) (fun i _ => N - (intOf i).toNat)
 case atStart => exact ⟨0, Nat.zero_le _, rfl, fun j _ hj => by omega, Below.refl _ _⟩
 case round =>
  obtain ⟨k, hk, rfl, HO, HB⟩ := hrel
  by_cases hlt : k < N
  ·obtain ⟨g, o, rfl, hg, hc⟩ := HP.out (by omega)
   have hkl : k < E.length := by rw [HN.out]; exact hlt
   obtain ⟨e0, e1, e2⟩ := qff E k hkl
   obtain ⟨px, lx, cx, hxs, _, _⟩ := (HE.out E[k] (List.getElem_mem hkl)).shape
   have HX := Lib.hid (fun W => ybqy E[k] W ⟨px, lx, cx, hxs⟩)
   rw [hxs] at e1 HX
   have c0 := (HB.cell (p := ⟨g, o + k * 3, none⟩) hg).trans (hc _ _ e0)
   have c1 := (HB.cell (p := ⟨g, o + (k * 3 + 1), none⟩) hg).trans (hc _ _ e1)
   have c2 := (HB.cell (p := ⟨g, o + (k * 3 + 2), none⟩) hg).trans (hc _ _ e2)
   rw [← Nat.add_assoc] at c1 c2
   obtain ⟨xn, Hxn⟩ : ∃ q, Hid (E[k].n = q) := ⟨E[k].n, rfl⟩
   obtain ⟨xb, Hxb⟩ : ∃ q, Hid (E[k].b = q) := ⟨E[k].b, rfl⟩
   rw [Hxn.out] at c0 HX
   rw [Hxb.out] at c2 HX
   have hlt2 : (k : Int) < (N : Int) := by omega
   clear hc e0 e1 e2 hxs
   go_wp2_with fail
   refine (HX.out _).mono ?_
   cases xb with
   | true =>
    have HF : Hid (barI E = (k : Int)) := by
     show _ = _
     unfold barI
     have : E.findIdx? (fun x => x.b) = some k := by
      rw [List.findIdx?_eq_some_iff_getElem]
      exact ⟨hkl, Hxb.out, fun j hj => by simpa using HO.out j (by omega) hj⟩
     rw [this]
    rintro e w1 ⟨rfl, hb1⟩
    have hB1 := Below.step HB hb1
    clear hb1
    go_wp2
    go_ret
    rw [HF.out]
    exact ⟨rfl, hB1⟩
   | false =>
    have HO2 : Hid (∀ j (hj : j < E.length), j < k + 1 → E[j].b = false) := fun j hj hjk => by
     by_cases e : j = k
     ·subst e; exact Hxb.out
     ·exact HO.out j hj (by omega)
    rintro e w1 ⟨rfl, hb1⟩
    have hB1 := Below.step HB hb1
    clear hb1
    go_wp2
    go_roundw
    case rel => exact ⟨k + 1, by omega, by go_num, HO2, hB1⟩
    case measure => simp [intOf]; omega
  ·have HF : Hid (barI E = -1) := by
    show _ = _
    unfold barI
    have : E.findIdx? (fun x => x.b) = none := by
     rw [List.findIdx?_eq_none_iff]
     intro x hx
     obtain ⟨j, hj, rfl⟩ := List.getElem_of_mem hx
     exact HO.out j hj (by rw [HN.out] at hj; omega)
    rw [this]
   go_wp2
   go_ret
   rw [HF.out]
   exact ⟨rfl, HB⟩
end Go.Proofs.YtpoglnpjadmbpaaGreatDoor
