/- The integers in an argument that holds no memory, by their places. -/
import Derived.Test.YtnmfbhiooccgfaaPlainData
namespace Go.Proofs.Ytnmfbhiooccgfaa
open Go.ChangeShapes Go.WideShapes Go.ChangeAt Go.RowKit

/-- Which kind of integer lies at a place of such a type. -/
def leafAt (P : Program) : Nat → TypeId → Nat → Option IntKind
  | 0, _, _ => none
  | d + 1, t, i => match P.underlying t with
    | some (.int k) => if i = 0 then some k else none
    | some (.struct fs) => fs.toList.findSome? fun f => if f.offset ≤ i ∧ i < f.offset + P.cellsOf f.type then leafAt P d f.type (i - f.offset) else none
    | some (.array n e) => if i / P.cellsOf e < n ∧ 0 < P.cellsOf e then leafAt P d e (i % P.cellsOf e) else none
    | _ => none

section
variable {H : Type} {enc : TypeId × Value → H} {P : Program}

theorem part_get {cs : List Value} {o n i : Nat} {v : Value} (h : ((cs.drop o).take n)[i]? = some v) : cs[o + i]? = some v := by
  rw [List.getElem?_take] at h
  split at h
  · rwa [List.getElem?_drop] at h
  · cases h

theorem trod_leaf (w : World) (base : Nat) (spare : Nat → Bool) (held : Bool) : ∀ (d : Nat) (t : TypeId) (i : Nat) (k : IntKind), leafAt P d t i = some k → ∀ (fuel : Nat) (cs : List Value) (y : DataW H × List MemPlace),
    DataW.trod enc P w base spare held fuel t cs = some y → ∃ x : Int, cs[i]? = some (.int k x) ∧ (Lit.int k x).wf = true
  | 0, t, i, k, h, _, _, _, _ => by simp [leafAt] at h
  | d + 1, t, i, k, h, fuel, cs, y, hy => by
    cases fuel with
    | zero => simp [DataW.trod] at hy
    | succ fuel =>
      unfold leafAt at h
      split at h
      · rename_i k' hu
        split at h
        · rename_i hi
          cases h
          subst hi
          obtain ⟨x, hx, _, hw⟩ := DataW.trod_int hu hy
          exact ⟨x, by rw [hx]; rfl, hw⟩
        · cases h
      · rename_i fs hu
        obtain ⟨f, hf, he⟩ := List.exists_of_findSome?_eq_some h
        split at he
        · rename_i hc
          unfold DataW.trod at hy
          rw [hu] at hy
          simp only at hy
          split at hy
          · cases hm : (fs.toList.mapM fun f => DataW.trod enc P w base spare held fuel f.type ((cs.drop f.offset).take (P.cellsOf f.type))) with
            | none => rw [hm] at hy; simp at hy
            | some ys =>
              obtain ⟨y0, h0, _⟩ := mapM_some_mem hm f hf
              obtain ⟨x, hx, hw⟩ := trod_leaf w base spare held d f.type (i - f.offset) k he fuel _ _ h0
              refine ⟨x, ?_, hw⟩
              have := part_get hx
              rwa [show f.offset + (i - f.offset) = i by omega] at this
          · cases hy
        · cases he
      · rename_i n e hu
        split at h
        · rename_i hc
          unfold DataW.trod at hy
          rw [hu] at hy
          simp only at hy
          split at hy
          · cases hm : ((List.range n).mapM fun i => DataW.trod enc P w base spare held fuel e ((cs.drop (i * P.cellsOf e)).take (P.cellsOf e))) with
            | none => rw [hm] at hy; simp at hy
            | some ys =>
              obtain ⟨y0, h0, _⟩ := mapM_some_mem hm (i / P.cellsOf e) (List.mem_range.2 hc.1)
              obtain ⟨x, hx, hw⟩ := trod_leaf w base spare held d e (i % P.cellsOf e) k h fuel _ _ h0
              refine ⟨x, ?_, hw⟩
              have := part_get hx
              rwa [Nat.mul_comm, Nat.div_add_mod] at this
          · cases hy
        · cases h
      · cases h
end

end Go.Proofs.Ytnmfbhiooccgfaa
