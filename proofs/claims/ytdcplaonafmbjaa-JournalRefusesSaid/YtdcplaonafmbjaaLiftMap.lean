/- What part's map holds: of each sector what is written to it last. -/
import Derived.Test.YtdcplaonafmbjaaRq
import Derived.Test.YtdcplaonafmbjaaLiftCmp
import Derived.Maps.RangeWalk
import Derived.Maps.Views
namespace Go.Proofs.Ytdcplaonafmbjaa
open Go.RowKit Go.Maps

/-- An element reads as itself. -/
def RV (v : Value) : Option (DataW Value × List MemPlace) := some (.held v, [])
def keyL (n : Nat) : Lit := .int .i64 (n : Int)
def mapD (E : List Rq) : DataW Value := E.foldl (fun D x => D.put (keyL x.n) (.held x.v)) (.map [])
def wrs (E : List Rq) : List Wr := E.map fun x => (x.n, x.D)
theorem mapD_snoc (E : List Rq) (x : Rq) : mapD (E ++ [x]) = (mapD E).put (keyL x.n) (.held x.v) := by unfold mapD; rw [List.foldl_append]; rfl
theorem wrs_snoc (E : List Rq) (x : Rq) : wrs (E ++ [x]) = wrs E ++ [(x.n, x.D)] := by simp [wrs]
theorem keyL_key (n : Nat) : WideAt.IsKeyLit (keyL n) := by unfold keyL; trivial
theorem keyL_inj {a b : Nat} (h : keyL a = keyL b) : a = b := by unfold keyL at h; injection h with _ h; omega

structure MapOk (E : List Rq) : Prop where
  im : IsMap (mapD E)
  back : ∀ kl, has (mapD E) kl = true → ∃ x ∈ E, kl = keyL x.n ∧ (∀ z, (mapD E).atKey kl z = .held x.v) ∧ lastD (wrs E) x.n = some x.D
  there : ∀ n, has (mapD E) (keyL n) = (lastD (wrs E) n).isSome
theorem mapOk_snoc {E : List Rq} (h : MapOk E) (x : Rq) : MapOk (E ++ [x]) := by
  refine ⟨?_, ?_, ?_⟩
  · rw [mapD_snoc]; exact h.im.put _ _
  · intro kl hk
    rw [mapD_snoc] at hk
    by_cases e : kl = keyL x.n
    · subst e
      refine ⟨x, by simp, rfl, fun z => ?_, ?_⟩
      · rw [mapD_snoc]; exact atKey_put_same h.im (keyL_key _) _ _
      · rw [wrs_snoc, lastD_snoc, if_pos rfl]
    · rw [has_put_other e] at hk
      obtain ⟨y, hy, h1, h2, h3⟩ := h.back kl hk
      refine ⟨y, by simp [hy], h1, fun z => ?_, ?_⟩
      · rw [mapD_snoc, atKey_put_other e]; exact h2 z
      · rw [wrs_snoc, lastD_snoc, if_neg (fun e2 => e (by rw [h1, ← e2]))]; exact h3
  · intro n
    rw [mapD_snoc, wrs_snoc, lastD_snoc]
    by_cases e : x.n = n
    · subst e
      rw [has_put_same h.im (keyL_key _), if_pos rfl]; rfl
    · rw [has_put_other (fun e2 => e (keyL_inj e2).symm), if_neg e]; exact h.there n
theorem mapOk_all (E : List Rq) : MapOk E := by
  have key : ∀ k, k ≤ E.length → MapOk (E.take k) := by
    intro k
    induction k with
    | zero => intro _; exact ⟨isMap_empty, fun kl hk => by simp [mapD, has] at hk, fun n => rfl⟩
    | succ k ih =>
      intro hk
      rw [← List.take_append_getElem (show k < E.length by omega)]
      exact mapOk_snoc (ih (by omega)) _
  have := key E.length (Nat.le_refl _)
  rwa [List.take_length] at this

def New64c (D : List Int) (w : World) (v : Value) (w' : World) : Prop :=
  ∃ g cap cur, v = .slice (some ⟨g, 0, none⟩) 64 cap ∧ (w.heap.size ≤ g ∧ 64 ≤ cap) ∧ w'.heap[g]? = some (.cells cur 5 (0, 0)) ∧ cur.toList.take 64 = u8s D ∧ Below w.heap.size w w'
theorem clone64c (v : Value) (D : List Int) (w : World) (h : BytesAt w v D) (hD : D.length = 64) : Calls Try.prog 45 #[v] w fun e w' => ∃ v', e = .returned v' ∧ New64c D w v' w' :=
  (clone_any v D w h (by omega) (by omega)).mono fun e w' ⟨v', he, g, cap, cur, hv, h1, h2, h3, h4⟩ => ⟨v', he, g, cap, cur, by rw [hv, hD], ⟨h1.1, by rw [← hD]; exact h1.2⟩, h2, by rw [← hD]; exact h3, h4⟩
/-- What stands in part's list so far, where 'left' says which sectors are still to come. -/
structure OutOk (R : List Wr) (base : Nat) (w : World) (left : Lit → Bool) (O : List Rk) : Prop where
  el : ∀ x ∈ O, x.1 < 256 ∧ ∃ D cur, lastD R x.1 = some D ∧ D.length = 64 ∧ (base ≤ x.2.1 ∧ 64 ≤ x.2.2) ∧ w.heap[x.2.1]? = some (.cells cur 5 (0, 0)) ∧ cur.toList.take 64 = u8s D
  nd : (O.map fun x => x.1).Nodup
  all : ∀ n D, lastD R n = some D → left (keyL n) = true ∨ n ∈ O.map fun x => x.1
  out : ∀ x ∈ O, left (keyL x.1) = false
theorem OutOk.keep {R : List Wr} {base : Nat} {w w' : World} {left : Lit → Bool} {O : List Rk} (h : OutOk R base w left O) (hk : ∀ i c, base ≤ i → w.heap[i]? = some (.cells c 5 (0, 0)) → w'.heap[i]? = w.heap[i]?) : OutOk R base w' left O :=
  ⟨fun x hx => by
    obtain ⟨h1, D, cur, h2, h3, h4, h5, h6⟩ := h.el x hx
    exact ⟨h1, D, cur, h2, h3, h4, (hk _ _ h4.1 h5).trans h5, h6⟩, h.nd, h.all, h.out⟩
theorem OutOk.start (R : List Wr) (base : Nat) (w : World) (left : Lit → Bool) (h : ∀ n D, lastD R n = some D → left (keyL n) = true) : OutOk R base w left [] :=
  ⟨fun x hx => by simp at hx, by simp, fun n D hn => Or.inl (h n D hn), fun x hx => by simp at hx⟩
theorem OutOk.step {R : List Wr} {base : Nat} {w : World} {left : Lit → Bool} {O : List Rk} (h : OutOk R base w left O) (n g c : Nat) (D : List Int) (cur : Array Value) (hl : left (keyL n) = true) (hn : n < 256) (hD : lastD R n = some D) (h64 : D.length = 64) (hg : base ≤ g ∧ 64 ≤ c)
    (hh : w.heap[g]? = some (.cells cur 5 (0, 0))) (ht : cur.toList.take 64 = u8s D) : OutOk R base w (fun z => left z && !z.sameKey (keyL n)) (O ++ [(n, g, c)]) := by
  have hself : (keyL n).sameKey (keyL n) = true := WideAt.sameKey_self (keyL_key n)
  refine ⟨fun x hx => ?_, ?_, fun m E hm => ?_, fun x hx => ?_⟩
  · rcases List.mem_append.1 hx with hx | hx
    · exact h.el x hx
    · simp at hx; subst hx
      exact ⟨hn, D, cur, hD, h64, hg, hh, ht⟩
  · rw [List.map_append, List.nodup_append]
    refine ⟨h.nd, by simp, fun a ha b hb e => ?_⟩
    simp at hb
    obtain ⟨x, hx, rfl⟩ := List.mem_map.1 ha
    have := h.out x hx
    rw [show x.1 = n by omega, hl] at this
    cases this
  · rcases h.all m E hm with h1 | h1
    · by_cases e : m = n
      · subst e; exact Or.inr (by simp)
      · refine Or.inl ?_
        have : (keyL m).sameKey (keyL n) = false := sameKey_ne fun e2 => e (keyL_inj e2)
        simp [h1, this]
    · exact Or.inr (by rw [List.map_append, List.mem_append]; exact Or.inl h1)
  · rcases List.mem_append.1 hx with hx | hx
    · simp [h.out x hx]
    · simp at hx; subst hx
      simp [hself]

end Go.Proofs.Ytdcplaonafmbjaa
