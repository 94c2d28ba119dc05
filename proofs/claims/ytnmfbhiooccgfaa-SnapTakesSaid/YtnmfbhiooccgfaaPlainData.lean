/- Arguments that hold no memory (numbers, bools, strings, and arrays and structs of these) read alike in every world. -/
import Derived.ProofKit
namespace Go.Proofs.Ytnmfbhiooccgfaa
open Go.ChangeShapes Go.WideShapes Go.ChangeAt Go.RowKit

def plainT (P : Program) : Nat → TypeId → Bool
  | 0, _ => false
  | d + 1, t => match P.underlying t with
    | some (.int _) | some .bool | some .string => true
    | some (.struct fs) => fs.toList.all fun f => plainT P d f.type
    | some (.array _ e) => plainT P d e
    | _ => false

theorem mapM_congr_opt {α β : Type} {f g : α → Option β} : ∀ (l : List α), (∀ x, x ∈ l → f x = g x) → l.mapM f = l.mapM g
  | [], _ => by simp
  | a :: l, h => by
    rw [List.mapM_cons, List.mapM_cons, h a (by simp), mapM_congr_opt l fun x hx => h x (by simp [hx])]

theorem mapM_some_mem {α β : Type} {f : α → Option β} : ∀ {l : List α} {ys : List β}, l.mapM f = some ys → ∀ x, x ∈ l → ∃ y, f x = some y ∧ y ∈ ys
  | [], _, _, x, hx => by cases hx
  | a :: l, ys, h, x, hx => by
    rw [List.mapM_cons] at h
    cases hfa : f a with
    | none => simp [hfa] at h
    | some b =>
      cases hl : l.mapM f with
      | none => simp [hfa, hl] at h
      | some bs =>
        simp [hfa, hl] at h
        subst h
        rcases List.mem_cons.1 hx with rfl | hx
        · exact ⟨b, hfa, by simp⟩
        · obtain ⟨y, h1, h2⟩ := mapM_some_mem hl x hx
          exact ⟨y, h1, by simp [h2]⟩

theorem mapM_mem_some {α β : Type} {f : α → Option β} : ∀ {l : List α} {ys : List β}, l.mapM f = some ys → ∀ y, y ∈ ys → ∃ x, x ∈ l ∧ f x = some y
  | [], ys, h, y, hy => by simp at h; subst h; cases hy
  | a :: l, ys, h, y, hy => by
    rw [List.mapM_cons] at h
    cases hfa : f a with
    | none => simp [hfa] at h
    | some b =>
      cases hl : l.mapM f with
      | none => simp [hfa, hl] at h
      | some bs =>
        simp [hfa, hl] at h
        subst h
        rcases List.mem_cons.1 hy with rfl | hy
        · exact ⟨a, by simp, hfa⟩
        · obtain ⟨x, h1, h2⟩ := mapM_mem_some hl y hy
          exact ⟨x, by simp [h1], h2⟩

section
variable {H : Type} {enc : TypeId × Value → H} {P : Program}

theorem trod_plain (w w' : World) (base base' : Nat) (spare spare' : Nat → Bool) (held held' : Bool) : ∀ (d : Nat) (t : TypeId), plainT P d t = true → ∀ (fuel : Nat) (cs : List Value),
    DataW.trod enc P w base spare held fuel t cs = DataW.trod enc P w' base' spare' held' fuel t cs
  | 0, t, h, _, _ => by simp [plainT] at h
  | d + 1, t, h, fuel, cs => by
    cases fuel with
    | zero => rfl
    | succ fuel =>
      unfold plainT at h
      unfold DataW.trod
      split at h
      · rename_i k hu; rw [hu]; rcases cs with _ | ⟨v, _ | ⟨v', l⟩⟩ <;> first | rfl | (cases v <;> rfl)
      · rename_i hu; rw [hu]; rcases cs with _ | ⟨v, _ | ⟨v', l⟩⟩ <;> first | rfl | (cases v <;> rfl)
      · rename_i hu; rw [hu]; rcases cs with _ | ⟨v, _ | ⟨v', l⟩⟩ <;> first | rfl | (cases v <;> rfl)
      · rename_i fs hu
        rw [hu]
        simp only
        rw [mapM_congr_opt fs.toList fun f hf => trod_plain w w' base base' spare spare' held held' d f.type (by simpa using (List.all_eq_true.1 h) f hf) fuel _]
      · rename_i n e hu
        rw [hu]
        simp only
        rw [mapM_congr_opt (List.range n) fun i _ => trod_plain w w' base base' spare spare' held held' d e h fuel _]
      · cases h

theorem trod_plain_places {w : World} {base : Nat} {spare : Nat → Bool} {held : Bool} : ∀ (d : Nat) (t : TypeId), plainT P d t = true → ∀ (fuel : Nat) (cs : List Value) (x : DataW H × List MemPlace),
    DataW.trod enc P w base spare held fuel t cs = some x → x.2 = []
  | 0, t, h, _, _, _, _ => by simp [plainT] at h
  | d + 1, t, h, fuel, cs, x, hx => by
    cases fuel with
    | zero => simp [DataW.trod] at hx
    | succ fuel =>
      unfold plainT at h
      unfold DataW.trod at hx
      split at h
      · rename_i k hu; rw [hu] at hx
        rcases cs with _ | ⟨v, _ | ⟨v', l⟩⟩ <;> first | (cases hx; done) | (cases v <;> first | (cases hx; done) | (cases hx; rfl) | (simp only at hx; split at hx <;> first | (cases hx; done) | (cases hx; rfl)))
      · rename_i hu; rw [hu] at hx
        rcases cs with _ | ⟨v, _ | ⟨v', l⟩⟩ <;> first | (cases hx; done) | (cases v <;> first | (cases hx; done) | (cases hx; rfl) | (simp only at hx; split at hx <;> first | (cases hx; done) | (cases hx; rfl)))
      · rename_i hu; rw [hu] at hx
        rcases cs with _ | ⟨v, _ | ⟨v', l⟩⟩ <;> first | (cases hx; done) | (cases v <;> first | (cases hx; done) | (cases hx; rfl) | (simp only at hx; split at hx <;> first | (cases hx; done) | (cases hx; rfl)))
      · rename_i fs hu
        rw [hu] at hx
        simp only at hx
        split at hx
        · cases hm : (fs.toList.mapM fun f => DataW.trod enc P w base spare held fuel f.type ((cs.drop f.offset).take (P.cellsOf f.type))) with
          | none => rw [hm] at hx; simp at hx
          | some ys =>
            rw [hm] at hx
            simp at hx
            subst hx
            simp only [List.flatMap_eq_nil_iff]
            intro y hy
            obtain ⟨f, hf, he⟩ := mapM_mem_some hm y hy
            exact trod_plain_places d f.type (by simpa using (List.all_eq_true.1 h) f hf) fuel _ y he
        · cases hx
      · rename_i n e hu
        rw [hu] at hx
        simp only at hx
        split at hx
        · cases hm : ((List.range n).mapM fun i => DataW.trod enc P w base spare held fuel e ((cs.drop (i * P.cellsOf e)).take (P.cellsOf e))) with
          | none => rw [hm] at hx; simp at hx
          | some ys =>
            rw [hm] at hx
            simp at hx
            subst hx
            simp only [List.flatMap_eq_nil_iff]
            intro y hy
            obtain ⟨i, _, he⟩ := mapM_mem_some hm y hy
            exact trod_plain_places d e h fuel _ y he
        · cases hx
      · cases h

/-- What was read of such an argument is read of it in any world. -/
theorem Trod_plain {w w' : World} {base base' : Nat} {spare spare' : Nat → Bool} {held held' : Bool} {d : Nat} {t : TypeId} (hp : plainT P d t = true) {v : Value} {x : DataW H} {ps : List MemPlace}
    (h : DataW.Trod enc P w base spare held t v x ps) : DataW.Trod enc P w' base' spare' held' t v x [] := by
  obtain ⟨fuel, hf⟩ := h
  have := trod_plain_places d t hp fuel _ _ hf
  simp only at this
  subst this
  exact ⟨fuel, by rw [← hf]; exact trod_plain w' w base' base spare' spare held' held d t hp fuel _⟩

theorem Trod_plain_nil {w : World} {base : Nat} {spare : Nat → Bool} {held : Bool} {d : Nat} {t : TypeId} (hp : plainT P d t = true) {v : Value} {x : DataW H} {ps : List MemPlace}
    (h : DataW.Trod enc P w base spare held t v x ps) : ps = [] := by
  obtain ⟨fuel, hf⟩ := h
  exact trod_plain_places d t hp fuel _ _ hf

/-- The cells of an array of integers. -/
theorem trod_array_ints {w : World} {base : Nat} {spare : Nat → Bool} {held : Bool} {t e : TypeId} {n : Nat} {k : IntKind} (ht : P.underlying t = some (.array n e)) (he : P.underlying e = some (.int k)) (hce : P.cellsOf e = 1)
    {fuel : Nat} {cs : List Value} {y : DataW H × List MemPlace} (h : DataW.trod enc P w base spare held fuel t cs = some y) : ∀ i, i < n → ∃ x : Int, cs[i]? = some (.int k x) ∧ (Lit.int k x).wf = true := by
  cases fuel with
  | zero => simp [DataW.trod] at h
  | succ fuel =>
    intro i hi
    unfold DataW.trod at h
    rw [ht] at h
    simp only at h
    split at h
    · cases hm : ((List.range n).mapM fun i => DataW.trod enc P w base spare held fuel e ((cs.drop (i * P.cellsOf e)).take (P.cellsOf e))) with
      | none => rw [hm] at h; simp at h
      | some ys =>
        obtain ⟨y0, h0, _⟩ := mapM_some_mem hm i (by simpa using hi)
        obtain ⟨x, hx, _, hw⟩ := DataW.trod_int he h0
        rw [hce, Nat.mul_one] at hx
        refine ⟨x, ?_, hw⟩
        have : ((cs.drop i).take 1)[0]? = some (.int k x) := by rw [hx]; rfl
        rw [List.getElem?_take] at this
        simpa using this
    · cases h
end

end Go.Proofs.Ytnmfbhiooccgfaa
