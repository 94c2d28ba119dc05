/- slices.Reverse and slices.Contains of entries; entries; laid: walked. -/
import Derived.Test.YtheiaebmemcbhaaDoorDirOut
import Derived.Test.YtheiaebmemcbhaaDoorDirRevLay
import Derived.Laws.StructEq
namespace Go.Proofs.YtheiaebmemcbhaaDoor
open Go.RowKit Go.Shelf Go.Sort

/-- In place, the other way round. -/
def RevE (base : Nat) (v : Value) (l : List En) (W : World) (e : Ending) (w' : World) : Prop := e = .returned (.tuple #[]) ∧ w'.ownsRow base 33 2 v l.length (ents l.reverse) ∧ W.grownBy w' v.ownBlock
set_option maxRecDepth 100000 in
theorem reverse_any (base : Nat) (v : Value) (l : List En) (W : World) (hown : W.ownsRow base 33 2 v l.length (ents l)) (hl : l.length ≤ 1000000) :
    Calls Tryd.prog 17 #[v] W (RevE base v l W) := by
  have hown0 := hown
  obtain ⟨h0, ⟨rfl, hn⟩ | ⟨g, cap, cur, rfl, hg, hhp, hc, hm, hs, ht⟩⟩ := hown
  · have hO : l = [] := List.length_eq_zero_iff.1 hn
    refine (AnyQ.slices_Reverse_empty Tryd.laysRev none 0 W).mono fun e w' ⟨he, hw⟩ => ⟨he, ?_, ?_⟩
    · rw [hw, hO]; rw [hO] at hown0; exact hown0
    · rw [hw]; exact ⟨rfl, rfl, rfl, Nat.le_refl _, fun _ _ _ => rfl⟩
  · have hsz : l.toArray.size = l.length := by simp
    have hH : HoldsK encE 2 W g 0 l.toArray := holdsK_of encE_len hhp (by rw [hsz]; have e : l.toArray.toList.flatMap encE = ents l := rfl; rw [e]; exact ht)
    have key := AnyQ.slices_Reverse Tryd.laysRev 2 Tryd.isAgg33 Tryd.sizeOf33 encE encE_len encE_one g 0 cap l.toArray W hH (by rw [hsz]; omega)
    rw [hsz] at key
    refine key.mono ?_
    rintro e w' ⟨he, n, hw⟩
    have hw2 : w' = sortWorldK encE 2 W g 0 n l.toArray.reverse #[] := by
      rw [hw]; unfold sortWorldK; rw [grow_empty]
    subst hw2
    have hd : l.toArray.reverse.size = l.length := by simp
    have hcs : l.toArray.reverse.size * 2 ≤ cur.size := by rw [hd, hs]; exact Nat.mul_le_mul_right _ hc
    obtain ⟨cur', k1, k2, k3⟩ := sortedK_block (enc := encE) (k := 2) encE_len (m := n) (os := #[]) hhp hcs
    refine ⟨he, ⟨by rw [ents_len, List.length_reverse], Or.inr ⟨g, cap, cur', rfl, hg, k1, hc, hm, by rw [k2]; exact hs, ?_⟩⟩, sortedK_grown⟩
    rw [hd] at k3
    rw [k3, ents_enc]
    simp

def eqE (x y : En) : Bool := x.1.toList == y.1.toList && x.2 == y.2
theorem eqE_iff (x y : En) : eqE x y = true ↔ x = y := by
  unfold eqE
  simp only [Bool.and_eq_true, beq_iff_eq]
  constructor
  · rintro ⟨h1, h2⟩; exact Prod.ext (ba_ext h1) h2
  · rintro rfl; exact ⟨rfl, rfl⟩
theorem eqAtE : EqlAt Tryd.prog 33 (fun x => .agg (encE x).toArray) eqE := by
  refine ⟨fun x y w => ?_, GuardAt.agg _ (by kernel_rfl)⟩
  have u9 := Tryd.underlying9
  have a9 := Tryd.isAgg9
  have z9 := Tryd.sizeOf9
  have u3 := Tryd.underlying3
  have a3 := Tryd.isAgg3
  have z3 := Tryd.sizeOf3
  have hS : Tryd.prog.underlying 33 = some (.struct (Tryd.prog.fieldsOf 33)) := by kernel_rfl
  have hp : Tryd.prog.stoodInHeld 33 = false := by kernel_rfl
  unfold eqE
  simp only [encE]
  rw [run_eql_struct, show (10000 : Nat) = 9999 + 1 from rfl, run_equalIn_agg w 9999 33 _ _ hS hp]
  simp only [Program.fieldsOf, Tryd.underlying33]
  go_simp
  by_cases h1 : x.1.toList = y.1.toList <;> by_cases h2 : x.2 = y.2 <;> simp [h1, h2]
theorem contains_any (v : Value) (l : List En) (x : En) (w : World) (h : EntsAt w v l) (hl : l.length ≤ 1000000) (hne : 0 < l.length) :
    Calls Tryd.prog 22 #[v, .agg #[.string x.1, .int .i64 x.2]] w fun e w' => e = .returned (.bool (l.any fun y => eqE x y)) ∧ Below w.heap.size w w' := by
  obtain ⟨_, ⟨h0, _⟩ | ⟨g, o, cap, rfl, hc⟩⟩ := h
  · omega
  have key := AnyQ.slices_Contains Tryd.laysCon 2 Tryd.isAgg33 Tryd.sizeOf33 encE encE_len eqE eqAtE g o l.length cap l x w (Nat.le_refl _) (by omega) (fun j hj i u hi => by
    have h1 := ents_get l j hj
    have e1 : l[j]! = l[j] := getElem!_pos l j hj
    rw [e1] at hi
    match i, hi with
    | 0, hi =>
      have : u = .string l[j].1 := by simpa [encE] using hi.symm
      subst this
      have := hc _ _ h1.1
      simpa using this
    | 1, hi =>
      have : u = .int .i64 l[j].2 := by simpa [encE] using hi.symm
      subst this
      have := hc _ _ h1.2
      rw [Nat.add_assoc]; exact this
    | i + 2, hi => simp [encE] at hi)
  rw [List.take_length] at key
  exact key
end Go.Proofs.YtheiaebmemcbhaaDoor
